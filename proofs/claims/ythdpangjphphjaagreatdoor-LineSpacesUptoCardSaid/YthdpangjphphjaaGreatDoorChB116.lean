import Derived.Test.YthdpangjphphjaaGreatDoorChA
import Derived.Test.YthdpangjphphjaaGreatDoorProg
set_option maxRecDepth 200000
set_option maxHeartbeats 8000000
namespace Yd
open Go Go.RowKit Go.Proofs
theorem check_r115 {w : World} {B : Nat} {l : LnC} {s : LnS} (k : Nat) (hk : k < 10) (hr : formR k = 115) (h : LnAt w B l s) (hkd : s.kind = (k : Int)) (hn : s.names.length ≤ 1000) (hv : s.vers.length ≤ 1000) (hg : GlobL w) :
   Calls Tryz.prog 17 #[valLn l] w (Ret (.int .i64 (if bodyB k s = true then 0 else 220)) w) := by
 have HNM := hid (fun W (hb : Below w.heap.size w W) => (h.below hb).namesAny (by omega) (Utf8Tabs_below hg.1.1 hb))
 have HVS := hid (fun W (hb : Below w.heap.size w W) => (h.below hb).versAny (by omega) (Utf8Tabs_below hg.1.1 hb))
 obtain ⟨⟨e1, e2, e3, e4, e5, e6⟩, _, _⟩ := h
 obtain ⟨lk, na, nn, nc, lvl, va, vn, vc, lf, bits⟩ := l
 obtain ⟨sk, names, slv, vers, first, sbt⟩ := s
 simp only at e1 e2 e3 e4 e5 e6 hkd hn hv HNM HVS
 subst e1 e2 e3 e4 hkd
 obtain ⟨N, hN⟩ : ∃ N : Nat, formN k = (N : Int) := ⟨(formN k).toNat, by unfold formN; split <;> rfl⟩
 have hN2 : N ≤ 2 := by have : formN k ≤ 2 := by unfold formN; split <;> decide
                        omega
 obtain ⟨mo, hmo⟩ : ∃ mo : Int, mo = (nn : Int) - (N : Int) := ⟨_, rfl⟩
 have hwm : wrap64 ((nn : Int) - (N : Int)) = mo := by rw [hmo]; exact IntWalk.wrap64_in _ (by omega)
 have HBODY : Hid (bodyB k ⟨(k : Int), names, lvl, vers, lf, bits⟩ = ((decide (0 ≤ mo) && decide (mo ≤ 40) && ((vn : Int) == mo) && vers.all toB) && names.all (fun x => wordB ⟨x.toArray⟩) && (((115 == (108 : Int)) == (lvl != 0)) && (!lf || 115 == (109 : Int)) && (bits == 0 || (115 == (103 : Int) && (decide (0 < bits) && decide (bits ≤ 15))))) && (lvl == 0 || levelB lvl))) := hid (by
   unfold bodyB
   simp only []
   rw [hr, hN, ← e5, ← e6, ← hmo]
   rw [show decide ((N : Int) ≤ (nn : Int)) = decide (0 ≤ mo) by rw [hmo]; exact decide_eq_decide.2 (by omega), show mostR 115 = 40 from rfl, show decide ((vn : Int) = manyR 115 mo) = ((vn : Int) == mo) from rfl])
 obtain ⟨out, hO⟩ : ∃ out : Int, out = (if bodyB k ⟨(k : Int), names, lvl, vers, lf, bits⟩ = true then (0 : Int) else 220) := ⟨_, rfl⟩
 rw [← hO]
 have HOUT := hid hO
 clear hO
 have hf := hg.2.1 k hk
 have hf1 : w.cell? ⟨0, k * 3, none⟩ = some (.string ⟨(formV k).toArray⟩) := by rw [Nat.mul_comm]; exact hf.1
 have hf2 : w.cell? ⟨0, k * 3 + 1, none⟩ = some (.int .i64 (N : Int)) := by rw [Nat.mul_comm, ← hN]; exact hf.2.1
 have hf3 : w.cell? ⟨0, k * 3 + 2, none⟩ = some (.int .i32 115) := by rw [Nat.mul_comm, ← hr]; exact hf.2.2
 have hb0 := cell_lt hf1
 simp only at hb0
 have HB0 := hid (belowA (belowA (Below.refl w.heap.size w) (.cells #[.int .i64 (k : Int), .slice na nn nc, .int .i64 lvl, .slice va vn vc, .bool lf, .int .i64 bits] 28)) (.cells #[.string ⟨(formV k).toArray⟩, .int .i64 (N : Int), .int .i32 115] 76))
 have HX0 := hid ((Bx.new w #[.int .i64 (k : Int), .slice na nn nc, .int .i64 lvl, .slice va vn vc, .bool lf, .int .i64 bits] 28).alloc (.cells #[.string ⟨(formV k).toArray⟩, .int .i64 (N : Int), .int .i32 115] 76))
 have HY0 : Hid (Bx ((w.alloc (.cells #[.int .i64 (k : Int), .slice na nn nc, .int .i64 lvl, .slice va vn vc, .bool lf, .int .i64 bits] 28)).alloc (.cells #[.string ⟨(formV k).toArray⟩, .int .i64 (N : Int), .int .i32 115] 76)) (w.heap.size + 1) #[.string ⟨(formV k).toArray⟩, .int .i64 (N : Int), .int .i32 115]) := hid (Bx.new1 (by simp))
 have HG := hid hg; have h10 : (k : Int) < 10 := by omega
 clear hg hf hmo hr hN e5 e6 hN2 hn hv
 cases h1 : decide (0 ≤ mo)
 · skip
   go_enter Tryz.func17, Tryz.ntmps17
   go_wp2_with fail
   refine (level_any lvl _ (HG.out.below HB0.out)).mono ?_
   rintro e wL ⟨⟨tL, rfl⟩, hbL⟩
   have hy1 := HX0.out.keep hbL; have hz1 := HY0.out.keep hbL
   have HX1 := hid hy1; have HY1 := hid hz1; have HB1 := hid (HB0.out.trans (hbL.mono HB0.out.size))
   have hcx1 := hy1.1; have hcy1 := hz1.1
   clear hbL hy1 hz1
   generalize (if levelB lvl = true then (0 : Int) else 190) = ev
   go_wp2_with fail
   go_ret
   have hout : out = 220 := by rw [HOUT.out, HBODY.out]; simp [h1]
   rw [hout]
   exact ⟨rfl, HB1.out⟩
 · skip
   go_enter Tryz.func17, Tryz.ntmps17
   go_wp2_with fail
   refine (most_any _ _).mono ?_
   rintro e w1 ⟨rfl, hb1⟩
   have hy2 := HX0.out.keep hb1; have hz2 := HY0.out.keep hb1
   have HX2 := hid hy2; have HY2 := hid hz2; have HB2 := hid (HB0.out.trans (hb1.mono HB0.out.size))
   have hcx2 := hy2.1; have hcy2 := hz2.1
   clear hb1 hy2 hz2
   simp only [mostR, Int.reduceEq, if_false, if_true, or_false]
   cases h2 : decide (mo ≤ 40)
   · skip
     go_wp2_with fail
     refine (level_any lvl _ (HG.out.below HB2.out)).mono ?_
     rintro e wL ⟨⟨tL, rfl⟩, hbL⟩
     have hy3 := HX2.out.keep hbL; have hz3 := HY2.out.keep hbL
     have HX3 := hid hy3; have HY3 := hid hz3; have HB3 := hid (HB2.out.trans (hbL.mono HB2.out.size))
     clear hcx2 hcy2
     have hcx3 := hy3.1; have hcy3 := hz3.1
     clear hbL hy3 hz3
     generalize (if levelB lvl = true then (0 : Int) else 190) = ev
     go_wp2_with fail
     go_ret
     have hout : out = 220 := by rw [HOUT.out, HBODY.out]; simp [h1, h2]
     rw [hout]
     exact ⟨rfl, HB3.out⟩
   · skip
     cases h3 : ((vn : Int) == mo)
     · skip
       go_wp2_with fail
       refine (level_any lvl _ (HG.out.below HB2.out)).mono ?_
       rintro e wL ⟨⟨tL, rfl⟩, hbL⟩
       have hy4 := HX2.out.keep hbL; have hz4 := HY2.out.keep hbL
       have HX4 := hid hy4; have HY4 := hid hz4; have HB4 := hid (HB2.out.trans (hbL.mono HB2.out.size))
       clear hcx2 hcy2
       have hcx4 := hy4.1; have hcy4 := hz4.1
       clear hbL hy4 hz4
       generalize (if levelB lvl = true then (0 : Int) else 190) = ev
       go_wp2_with fail
       go_ret
       have hout : out = 220 := by rw [HOUT.out, HBODY.out]; simp [h1, h2, h3]
       rw [hout]
       exact ⟨rfl, HB4.out⟩
     · skip
       go_wp2_with fail
       refine (HVS.out _ HB2.out).mono ?_
       rintro e w2 ⟨rfl, hb2⟩
       have hy5 := HX2.out.keep hb2; have hz5 := HY2.out.keep hb2
       have HX5 := hid hy5; have HY5 := hid hz5; have HB5 := hid (HB2.out.trans (hb2.mono HB2.out.size))
       clear hcx2 hcy2
       have hcx5 := hy5.1; have hcy5 := hz5.1
       clear hb2 hy5 hz5
       cases h4 : vers.all toB
       · skip
         simp only [Bool.not_false]
         go_wp2_with fail
         refine (level_any lvl _ (HG.out.below HB5.out)).mono ?_
         rintro e wL ⟨⟨tL, rfl⟩, hbL⟩
         have hy6 := HX5.out.keep hbL; have hz6 := HY5.out.keep hbL
         have HX6 := hid hy6; have HY6 := hid hz6; have HB6 := hid (HB5.out.trans (hbL.mono HB5.out.size))
         clear hcx5 hcy5
         have hcx6 := hy6.1; have hcy6 := hz6.1
         clear hbL hy6 hz6
         generalize (if levelB lvl = true then (0 : Int) else 190) = ev
         go_wp2_with fail
         go_ret
         have hout : out = 220 := by rw [HOUT.out, HBODY.out]; simp [h1, h2, h3, h4]
         rw [hout]
         exact ⟨rfl, HB6.out⟩
       · skip
         simp only [Bool.not_true]
         go_wp2_with fail
         refine (HNM.out _ HB5.out).mono ?_
         rintro e w3 ⟨rfl, hb3⟩
         have hy7 := HX5.out.keep hb3; have hz7 := HY5.out.keep hb3
         have HX7 := hid hy7; have HY7 := hid hz7; have HB7 := hid (HB5.out.trans (hb3.mono HB5.out.size))
         clear hcx5 hcy5
         have hcx7 := hy7.1; have hcy7 := hz7.1
         clear hb3 hy7 hz7
         cases h5 : names.all (fun x => wordB ⟨x.toArray⟩)
         · skip
           simp only [Bool.not_false]
           go_wp2_with fail
           refine (level_any lvl _ (HG.out.below HB7.out)).mono ?_
           rintro e wL ⟨⟨tL, rfl⟩, hbL⟩
           have hy8 := HX7.out.keep hbL; have hz8 := HY7.out.keep hbL
           have HX8 := hid hy8; have HY8 := hid hz8; have HB8 := hid (HB7.out.trans (hbL.mono HB7.out.size))
           clear hcx7 hcy7
           have hcx8 := hy8.1; have hcy8 := hz8.1
           clear hbL hy8 hz8
           generalize (if levelB lvl = true then (0 : Int) else 190) = ev
           go_wp2_with fail
           go_ret
           have hout : out = 220 := by rw [HOUT.out, HBODY.out]; simp [h1, h2, h3, h4, h5]
           rw [hout]
           exact ⟨rfl, HB8.out⟩
         · skip
           simp only [Bool.not_true]
           cases h6 : (lvl != 0)
           · skip
             have h6' : (lvl == 0) = true := by have := h6; simp at this ⊢; exact this
             have H6 := hid h6'
             clear h6'
             cases lf
             · skip
               cases h8 : (bits == 0)
               · skip
                 go_wp2_with fail
                 refine (level_any lvl _ (HG.out.below HB7.out)).mono ?_
                 rintro e wL ⟨⟨tL, rfl⟩, hbL⟩
                 have hy9 := HX7.out.keep hbL; have hz9 := HY7.out.keep hbL
                 have HX9 := hid hy9; have HY9 := hid hz9; have HB9 := hid (HB7.out.trans (hbL.mono HB7.out.size))
                 clear hcx7 hcy7
                 have hcx9 := hy9.1; have hcy9 := hz9.1
                 clear hbL hy9 hz9
                 generalize (if levelB lvl = true then (0 : Int) else 190) = ev
                 go_wp2_with fail
                 go_ret
                 have hout : out = 220 := by rw [HOUT.out, HBODY.out]; simp [h1, h2, h3, h4, h5, h6, H6.out, h8]
                 rw [hout]
                 exact ⟨rfl, HB9.out⟩
               · skip
                 go_wp2_with fail
                 refine (level_any lvl _ (HG.out.below HB7.out)).mono ?_
                 rintro e wL ⟨⟨tL, rfl⟩, hbL⟩
                 have hy10 := HX7.out.keep hbL; have hz10 := HY7.out.keep hbL
                 have HX10 := hid hy10; have HY10 := hid hz10; have HB10 := hid (HB7.out.trans (hbL.mono HB7.out.size))
                 clear hcx7 hcy7
                 have hcx10 := hy10.1; have hcy10 := hz10.1
                 clear hbL hy10 hz10
                 generalize (if levelB lvl = true then (0 : Int) else 190) = ev
                 go_wp2_with fail
                 go_ret
                 have hout : out = 0 := by rw [HOUT.out, HBODY.out]; simp [h1, h2, h3, h4, h5, h6, H6.out, h8]
                 rw [hout]
                 exact ⟨rfl, HB10.out⟩
             · skip
               go_wp2_with fail
               refine (level_any lvl _ (HG.out.below HB7.out)).mono ?_
               rintro e wL ⟨⟨tL, rfl⟩, hbL⟩
               have hy11 := HX7.out.keep hbL; have hz11 := HY7.out.keep hbL
               have HX11 := hid hy11; have HY11 := hid hz11; have HB11 := hid (HB7.out.trans (hbL.mono HB7.out.size))
               clear hcx7 hcy7
               have hcx11 := hy11.1; have hcy11 := hz11.1
               clear hbL hy11 hz11
               generalize (if levelB lvl = true then (0 : Int) else 190) = ev
               go_wp2_with fail
               go_ret
               have hout : out = 220 := by rw [HOUT.out, HBODY.out]; simp [h1, h2, h3, h4, h5, h6, H6.out]
               rw [hout]
               exact ⟨rfl, HB11.out⟩
           · skip
             have h6' : (lvl == 0) = false := by have := h6; simp at this ⊢; exact this
             have H6 := hid h6'
             clear h6'
             go_wp2_with fail
             refine (level_any lvl _ (HG.out.below HB7.out)).mono ?_
             rintro e wL ⟨⟨tL, rfl⟩, hbL⟩
             have hy12 := HX7.out.keep hbL; have hz12 := HY7.out.keep hbL
             have HX12 := hid hy12; have HY12 := hid hz12; have HB12 := hid (HB7.out.trans (hbL.mono HB7.out.size))
             clear hcx7 hcy7
             have hcx12 := hy12.1; have hcy12 := hz12.1
             clear hbL hy12 hz12
             generalize (if levelB lvl = true then (0 : Int) else 190) = ev
             go_wp2_with fail
             go_ret
             have hout : out = 220 := by rw [HOUT.out, HBODY.out]; simp [h1, h2, h3, h4, h5, h6, H6.out]
             rw [hout]
             exact ⟨rfl, HB12.out⟩
end Yd


namespace Yd
open Go Go.RowKit Go.Proofs
theorem check_r116 {w : World} {B : Nat} {l : LnC} {s : LnS} (k : Nat) (hk : k < 10) (hr : formR k = 116) (h : LnAt w B l s) (hkd : s.kind = (k : Int)) (hn : s.names.length ≤ 1000) (hv : s.vers.length ≤ 1000) (hg : GlobL w) :
   Calls Tryz.prog 17 #[valLn l] w (Ret (.int .i64 (if bodyB k s = true then 0 else 220)) w) := by
 have HNM := hid (fun W (hb : Below w.heap.size w W) => (h.below hb).namesAny (by omega) (Utf8Tabs_below hg.1.1 hb))
 have HVS := hid (fun W (hb : Below w.heap.size w W) => (h.below hb).versAny (by omega) (Utf8Tabs_below hg.1.1 hb))
 obtain ⟨⟨e1, e2, e3, e4, e5, e6⟩, _, _⟩ := h
 obtain ⟨lk, na, nn, nc, lvl, va, vn, vc, lf, bits⟩ := l
 obtain ⟨sk, names, slv, vers, first, sbt⟩ := s
 simp only at e1 e2 e3 e4 e5 e6 hkd hn hv HNM HVS
 subst e1 e2 e3 e4 hkd
 obtain ⟨N, hN⟩ : ∃ N : Nat, formN k = (N : Int) := ⟨(formN k).toNat, by unfold formN; split <;> rfl⟩
 have hN2 : N ≤ 2 := by have : formN k ≤ 2 := by unfold formN; split <;> decide
                        omega
 obtain ⟨mo, hmo⟩ : ∃ mo : Int, mo = (nn : Int) - (N : Int) := ⟨_, rfl⟩
 have hwm : wrap64 ((nn : Int) - (N : Int)) = mo := by rw [hmo]; exact IntWalk.wrap64_in _ (by omega)
 have HBODY : Hid (bodyB k ⟨(k : Int), names, lvl, vers, lf, bits⟩ = ((decide (0 ≤ mo) && decide (mo ≤ 300) && ((vn : Int) == 0) && vers.all toB) && names.all (fun x => wordB ⟨x.toArray⟩) && (((116 == (108 : Int)) == (lvl != 0)) && (!lf || 116 == (109 : Int)) && (bits == 0 || (116 == (103 : Int) && (decide (0 < bits) && decide (bits ≤ 15))))) && (lvl == 0 || levelB lvl))) := hid (by
   unfold bodyB
   simp only []
   rw [hr, hN, ← e5, ← e6, ← hmo]
   rw [show decide ((N : Int) ≤ (nn : Int)) = decide (0 ≤ mo) by rw [hmo]; exact decide_eq_decide.2 (by omega), show mostR 116 = 300 from rfl, show decide ((vn : Int) = manyR 116 mo) = ((vn : Int) == 0) from rfl])
 obtain ⟨out, hO⟩ : ∃ out : Int, out = (if bodyB k ⟨(k : Int), names, lvl, vers, lf, bits⟩ = true then (0 : Int) else 220) := ⟨_, rfl⟩
 rw [← hO]
 have HOUT := hid hO
 clear hO
 have hf := hg.2.1 k hk
 have hf1 : w.cell? ⟨0, k * 3, none⟩ = some (.string ⟨(formV k).toArray⟩) := by rw [Nat.mul_comm]; exact hf.1
 have hf2 : w.cell? ⟨0, k * 3 + 1, none⟩ = some (.int .i64 (N : Int)) := by rw [Nat.mul_comm, ← hN]; exact hf.2.1
 have hf3 : w.cell? ⟨0, k * 3 + 2, none⟩ = some (.int .i32 116) := by rw [Nat.mul_comm, ← hr]; exact hf.2.2
 have hb0 := cell_lt hf1
 simp only at hb0
 have HB0 := hid (belowA (belowA (Below.refl w.heap.size w) (.cells #[.int .i64 (k : Int), .slice na nn nc, .int .i64 lvl, .slice va vn vc, .bool lf, .int .i64 bits] 28)) (.cells #[.string ⟨(formV k).toArray⟩, .int .i64 (N : Int), .int .i32 116] 76))
 have HX0 := hid ((Bx.new w #[.int .i64 (k : Int), .slice na nn nc, .int .i64 lvl, .slice va vn vc, .bool lf, .int .i64 bits] 28).alloc (.cells #[.string ⟨(formV k).toArray⟩, .int .i64 (N : Int), .int .i32 116] 76))
 have HY0 : Hid (Bx ((w.alloc (.cells #[.int .i64 (k : Int), .slice na nn nc, .int .i64 lvl, .slice va vn vc, .bool lf, .int .i64 bits] 28)).alloc (.cells #[.string ⟨(formV k).toArray⟩, .int .i64 (N : Int), .int .i32 116] 76)) (w.heap.size + 1) #[.string ⟨(formV k).toArray⟩, .int .i64 (N : Int), .int .i32 116]) := hid (Bx.new1 (by simp))
 have HG := hid hg; have h10 : (k : Int) < 10 := by omega
 clear hg hf hmo hr hN e5 e6 hN2 hn hv
 cases h1 : decide (0 ≤ mo)
 · skip
   go_enter Tryz.func17, Tryz.ntmps17
   go_wp2_with fail
   refine (level_any lvl _ (HG.out.below HB0.out)).mono ?_
   rintro e wL ⟨⟨tL, rfl⟩, hbL⟩
   have hy1 := HX0.out.keep hbL; have hz1 := HY0.out.keep hbL
   have HX1 := hid hy1; have HY1 := hid hz1; have HB1 := hid (HB0.out.trans (hbL.mono HB0.out.size))
   have hcx1 := hy1.1; have hcy1 := hz1.1
   clear hbL hy1 hz1
   generalize (if levelB lvl = true then (0 : Int) else 190) = ev
   go_wp2_with fail
   go_ret
   have hout : out = 220 := by rw [HOUT.out, HBODY.out]; simp [h1]
   rw [hout]
   exact ⟨rfl, HB1.out⟩
 · skip
   go_enter Tryz.func17, Tryz.ntmps17
   go_wp2_with fail
   refine (most_any _ _).mono ?_
   rintro e w1 ⟨rfl, hb1⟩
   have hy2 := HX0.out.keep hb1; have hz2 := HY0.out.keep hb1
   have HX2 := hid hy2; have HY2 := hid hz2; have HB2 := hid (HB0.out.trans (hb1.mono HB0.out.size))
   have hcx2 := hy2.1; have hcy2 := hz2.1
   clear hb1 hy2 hz2
   simp only [mostR, Int.reduceEq, if_false, if_true, or_false]
   cases h2 : decide (mo ≤ 300)
   · skip
     go_wp2_with fail
     refine (level_any lvl _ (HG.out.below HB2.out)).mono ?_
     rintro e wL ⟨⟨tL, rfl⟩, hbL⟩
     have hy3 := HX2.out.keep hbL; have hz3 := HY2.out.keep hbL
     have HX3 := hid hy3; have HY3 := hid hz3; have HB3 := hid (HB2.out.trans (hbL.mono HB2.out.size))
     clear hcx2 hcy2
     have hcx3 := hy3.1; have hcy3 := hz3.1
     clear hbL hy3 hz3
     generalize (if levelB lvl = true then (0 : Int) else 190) = ev
     go_wp2_with fail
     go_ret
     have hout : out = 220 := by rw [HOUT.out, HBODY.out]; simp [h1, h2]
     rw [hout]
     exact ⟨rfl, HB3.out⟩
   · skip
     cases h3 : ((vn : Int) == 0)
     · skip
       go_wp2_with fail
       refine (level_any lvl _ (HG.out.below HB2.out)).mono ?_
       rintro e wL ⟨⟨tL, rfl⟩, hbL⟩
       have hy4 := HX2.out.keep hbL; have hz4 := HY2.out.keep hbL
       have HX4 := hid hy4; have HY4 := hid hz4; have HB4 := hid (HB2.out.trans (hbL.mono HB2.out.size))
       clear hcx2 hcy2
       have hcx4 := hy4.1; have hcy4 := hz4.1
       clear hbL hy4 hz4
       generalize (if levelB lvl = true then (0 : Int) else 190) = ev
       go_wp2_with fail
       go_ret
       have hout : out = 220 := by rw [HOUT.out, HBODY.out]; simp [h1, h2, h3]
       rw [hout]
       exact ⟨rfl, HB4.out⟩
     · skip
       go_wp2_with fail
       refine (HVS.out _ HB2.out).mono ?_
       rintro e w2 ⟨rfl, hb2⟩
       have hy5 := HX2.out.keep hb2; have hz5 := HY2.out.keep hb2
       have HX5 := hid hy5; have HY5 := hid hz5; have HB5 := hid (HB2.out.trans (hb2.mono HB2.out.size))
       clear hcx2 hcy2
       have hcx5 := hy5.1; have hcy5 := hz5.1
       clear hb2 hy5 hz5
       cases h4 : vers.all toB
       · skip
         simp only [Bool.not_false]
         go_wp2_with fail
         refine (level_any lvl _ (HG.out.below HB5.out)).mono ?_
         rintro e wL ⟨⟨tL, rfl⟩, hbL⟩
         have hy6 := HX5.out.keep hbL; have hz6 := HY5.out.keep hbL
         have HX6 := hid hy6; have HY6 := hid hz6; have HB6 := hid (HB5.out.trans (hbL.mono HB5.out.size))
         clear hcx5 hcy5
         have hcx6 := hy6.1; have hcy6 := hz6.1
         clear hbL hy6 hz6
         generalize (if levelB lvl = true then (0 : Int) else 190) = ev
         go_wp2_with fail
         go_ret
         have hout : out = 220 := by rw [HOUT.out, HBODY.out]; simp [h1, h2, h3, h4]
         rw [hout]
         exact ⟨rfl, HB6.out⟩
       · skip
         simp only [Bool.not_true]
         go_wp2_with fail
         refine (HNM.out _ HB5.out).mono ?_
         rintro e w3 ⟨rfl, hb3⟩
         have hy7 := HX5.out.keep hb3; have hz7 := HY5.out.keep hb3
         have HX7 := hid hy7; have HY7 := hid hz7; have HB7 := hid (HB5.out.trans (hb3.mono HB5.out.size))
         clear hcx5 hcy5
         have hcx7 := hy7.1; have hcy7 := hz7.1
         clear hb3 hy7 hz7
         cases h5 : names.all (fun x => wordB ⟨x.toArray⟩)
         · skip
           simp only [Bool.not_false]
           go_wp2_with fail
           refine (level_any lvl _ (HG.out.below HB7.out)).mono ?_
           rintro e wL ⟨⟨tL, rfl⟩, hbL⟩
           have hy8 := HX7.out.keep hbL; have hz8 := HY7.out.keep hbL
           have HX8 := hid hy8; have HY8 := hid hz8; have HB8 := hid (HB7.out.trans (hbL.mono HB7.out.size))
           clear hcx7 hcy7
           have hcx8 := hy8.1; have hcy8 := hz8.1
           clear hbL hy8 hz8
           generalize (if levelB lvl = true then (0 : Int) else 190) = ev
           go_wp2_with fail
           go_ret
           have hout : out = 220 := by rw [HOUT.out, HBODY.out]; simp [h1, h2, h3, h4, h5]
           rw [hout]
           exact ⟨rfl, HB8.out⟩
         · skip
           simp only [Bool.not_true]
           cases h6 : (lvl != 0)
           · skip
             have h6' : (lvl == 0) = true := by have := h6; simp at this ⊢; exact this
             have H6 := hid h6'
             clear h6'
             cases lf
             · skip
               cases h8 : (bits == 0)
               · skip
                 go_wp2_with fail
                 refine (level_any lvl _ (HG.out.below HB7.out)).mono ?_
                 rintro e wL ⟨⟨tL, rfl⟩, hbL⟩
                 have hy9 := HX7.out.keep hbL; have hz9 := HY7.out.keep hbL
                 have HX9 := hid hy9; have HY9 := hid hz9; have HB9 := hid (HB7.out.trans (hbL.mono HB7.out.size))
                 clear hcx7 hcy7
                 have hcx9 := hy9.1; have hcy9 := hz9.1
                 clear hbL hy9 hz9
                 generalize (if levelB lvl = true then (0 : Int) else 190) = ev
                 go_wp2_with fail
                 go_ret
                 have hout : out = 220 := by rw [HOUT.out, HBODY.out]; simp [h1, h2, h3, h4, h5, h6, H6.out, h8]
                 rw [hout]
                 exact ⟨rfl, HB9.out⟩
               · skip
                 go_wp2_with fail
                 refine (level_any lvl _ (HG.out.below HB7.out)).mono ?_
                 rintro e wL ⟨⟨tL, rfl⟩, hbL⟩
                 have hy10 := HX7.out.keep hbL; have hz10 := HY7.out.keep hbL
                 have HX10 := hid hy10; have HY10 := hid hz10; have HB10 := hid (HB7.out.trans (hbL.mono HB7.out.size))
                 clear hcx7 hcy7
                 have hcx10 := hy10.1; have hcy10 := hz10.1
                 clear hbL hy10 hz10
                 generalize (if levelB lvl = true then (0 : Int) else 190) = ev
                 go_wp2_with fail
                 go_ret
                 have hout : out = 0 := by rw [HOUT.out, HBODY.out]; simp [h1, h2, h3, h4, h5, h6, H6.out, h8]
                 rw [hout]
                 exact ⟨rfl, HB10.out⟩
             · skip
               go_wp2_with fail
               refine (level_any lvl _ (HG.out.below HB7.out)).mono ?_
               rintro e wL ⟨⟨tL, rfl⟩, hbL⟩
               have hy11 := HX7.out.keep hbL; have hz11 := HY7.out.keep hbL
               have HX11 := hid hy11; have HY11 := hid hz11; have HB11 := hid (HB7.out.trans (hbL.mono HB7.out.size))
               clear hcx7 hcy7
               have hcx11 := hy11.1; have hcy11 := hz11.1
               clear hbL hy11 hz11
               generalize (if levelB lvl = true then (0 : Int) else 190) = ev
               go_wp2_with fail
               go_ret
               have hout : out = 220 := by rw [HOUT.out, HBODY.out]; simp [h1, h2, h3, h4, h5, h6, H6.out]
               rw [hout]
               exact ⟨rfl, HB11.out⟩
           · skip
             have h6' : (lvl == 0) = false := by have := h6; simp at this ⊢; exact this
             have H6 := hid h6'
             clear h6'
             go_wp2_with fail
             refine (level_any lvl _ (HG.out.below HB7.out)).mono ?_
             rintro e wL ⟨⟨tL, rfl⟩, hbL⟩
             have hy12 := HX7.out.keep hbL; have hz12 := HY7.out.keep hbL
             have HX12 := hid hy12; have HY12 := hid hz12; have HB12 := hid (HB7.out.trans (hbL.mono HB7.out.size))
             clear hcx7 hcy7
             have hcx12 := hy12.1; have hcy12 := hz12.1
             clear hbL hy12 hz12
             generalize (if levelB lvl = true then (0 : Int) else 190) = ev
             go_wp2_with fail
             go_ret
             have hout : out = 220 := by rw [HOUT.out, HBODY.out]; simp [h1, h2, h3, h4, h5, h6, H6.out]
             rw [hout]
             exact ⟨rfl, HB12.out⟩
end Yd
