import Derived.Test.YthdpangjphphjaaGreatDoorLex
import Derived.Test.YthdpangjphphjaaGreatDoorOrd
import Derived.Test.YthdpangjphphjaaGreatDoorProg
import Derived.BigQuiet
import Derived.Test.YthdpangjphphjaaGreatDoorLawSt
import Derived.Test.YthdpangjphphjaaGreatDoorOwn
import Derived.Test.YthdpangjphphjaaGreatDoorOrdP
set_option maxRecDepth 200000
set_option maxHeartbeats 8000000
namespace Yd
open Go Go.RowKit Go.Proofs

end Yd


namespace Yd
open Go Go.RowKit Go.Proofs
attribute [local go_sem] Oper.semAt_some

theorem same_any_line (l l2 : LnC) (s t : LnS) (B B2 : Nat) (w : World) (h : LnAt w B l s) (h2 : LnAt w B2 l2 t) (hn : s.names.length ≤ 1000000) (hv : s.vers.length ≤ 1000000) (hn2 : t.names.length ≤ 1000000) (hv2 : t.vers.length ≤ 1000000) :
   Calls Tryz.prog 18 #[valLn l, valLn l2] w (Ret (.bool (decide (s = t))) w) := by
 obtain ⟨xk, na, nn, nc, xl, va, vn, vc, xf, xb⟩ := l
 obtain ⟨yk, na2, nn2, nc2, yl, va2, vn2, vc2, yf, yb⟩ := l2
 obtain ⟨sk, xs, sl, vs, sf, sb⟩ := s
 obtain ⟨tk, ys, tl, us, tf, tb⟩ := t
 obtain ⟨⟨q1, q2, q3, q4, q5, q6⟩, ho, hw⟩ := h
 obtain ⟨⟨p1, p2, p3, p4, p5, p6⟩, ho2, hw2⟩ := h2
 simp only at q1 q2 q3 q4 q5 q6 p1 p2 p3 p4 p5 p6 ho hw ho2 hw2 hn hv hn2 hv2
 subst q1 q2 q3 q4 p1 p2 p3 p4
 have HN := hid (ho.row (hc := cInsStr) (by omega)); have HN2 := hid (ho2.row (hc := cInsStr) (by omega))
 have HV := hid (hw.row (hc := cInsTo) (by omega)); have HV2 := hid (hw2.row (hc := cInsTo) (by omega))
 obtain ⟨out, hO⟩ : ∃ out : Bool, out = decide ((⟨xk, xs, xl, vs, xf, xb⟩ : LnS) = ⟨yk, ys, yl, us, yf, yb⟩) := ⟨_, rfl⟩
 rw [← hO]
 have HOUT := hid hO
 have hle : vn ≤ 1000000 := by omega
 have HLE := hid (⟨q6, p6⟩ : _ ∧ _)
 clear hO q5 q6 p5 p6 ho hw ho2 hw2 hn hv hn2 hv2
 have HXA : Hid (Bx ((w.alloc (.cells #[.int .i64 xk, .slice na nn nc, .int .i64 xl, .slice va vn vc, .bool xf, .int .i64 xb] 28)).alloc (.cells #[.int .i64 yk, .slice na2 nn2 nc2, .int .i64 yl, .slice va2 vn2 vc2, .bool yf, .int .i64 yb] 28)) w.heap.size #[.int .i64 xk, .slice na nn nc, .int .i64 xl, .slice va vn vc, .bool xf, .int .i64 xb] ∧ Bx ((w.alloc (.cells #[.int .i64 xk, .slice na nn nc, .int .i64 xl, .slice va vn vc, .bool xf, .int .i64 xb] 28)).alloc (.cells #[.int .i64 yk, .slice na2 nn2 nc2, .int .i64 yl, .slice va2 vn2 vc2, .bool yf, .int .i64 yb] 28)) (w.heap.size + 1) #[.int .i64 yk, .slice na2 nn2 nc2, .int .i64 yl, .slice va2 vn2 vc2, .bool yf, .int .i64 yb]) := hid ⟨(Bx.new w _ _).alloc _, Bx.new1 (by simp)⟩
 have HB0 := hid (belowA (belowA (Below.refl w.heap.size w) (.cells #[.int .i64 xk, .slice na nn nc, .int .i64 xl, .slice va vn vc, .bool xf, .int .i64 xb] 28)) (.cells #[.int .i64 yk, .slice na2 nn2 nc2, .int .i64 yl, .slice va2 vn2 vc2, .bool yf, .int .i64 yb] 28))
 cases h1 : (xk == yk)
 · skip
   have h1n : (xk != yk) = true := by unfold bne; rw [h1]; rfl
   have H1 := hid h1
   have hout : out = false := by rw [HOUT.out]; exact decide_eq_false (fun e => by injection e with q1 q2 q3 q4 q5 q6; exact absurd (beq_iff_eq.2 q1) (by rw [H1.out]; simp))
   rw [hout]
   clear hout
   go_enter Tryz.func18, Tryz.ntmps18
   have hcx := HXA.out.1.1; have hlx := HXA.out.1.2.2; have hcy := HXA.out.2.1; have hly := HXA.out.2.2.2
   go_wp2_with fail
   go_ret
   exact ⟨rfl, HB0.out⟩
 · skip
   have h1n : (xk != yk) = false := by unfold bne; rw [h1]; rfl
   have H1 := hid h1
   cases h2 : (xl == yl)
   · skip
     have h2n : (xl != yl) = true := by unfold bne; rw [h2]; rfl
     have H2 := hid h2
     have hout : out = false := by rw [HOUT.out]; exact decide_eq_false (fun e => by injection e with q1 q2 q3 q4 q5 q6; exact absurd (beq_iff_eq.2 q3) (by rw [H2.out]; simp))
     rw [hout]
     clear hout
     go_enter Tryz.func18, Tryz.ntmps18
     have hcx := HXA.out.1.1; have hlx := HXA.out.1.2.2; have hcy := HXA.out.2.1; have hly := HXA.out.2.2.2
     go_wp2_with fail
     go_ret
     exact ⟨rfl, HB0.out⟩
   · skip
     have h2n : (xl != yl) = false := by unfold bne; rw [h2]; rfl
     have H2 := hid h2
     cases h3 : (xf == yf)
     · skip
       have h3n : (xf != yf) = true := by unfold bne; rw [h3]; rfl
       have H3 := hid h3
       have hout : out = false := by rw [HOUT.out]; exact decide_eq_false (fun e => by injection e with q1 q2 q3 q4 q5 q6; exact absurd (beq_iff_eq.2 q5) (by rw [H3.out]; simp))
       rw [hout]
       clear hout
       go_enter Tryz.func18, Tryz.ntmps18
       have hcx := HXA.out.1.1; have hlx := HXA.out.1.2.2; have hcy := HXA.out.2.1; have hly := HXA.out.2.2.2
       go_wp2_with fail
       go_ret
       exact ⟨rfl, HB0.out⟩
     · skip
       have h3n : (xf != yf) = false := by unfold bne; rw [h3]; rfl
       have H3 := hid h3
       cases h4 : (xb == yb)
       · skip
         have h4n : (xb != yb) = true := by unfold bne; rw [h4]; rfl
         have H4 := hid h4
         have hout : out = false := by rw [HOUT.out]; exact decide_eq_false (fun e => by injection e with q1 q2 q3 q4 q5 q6; exact absurd (beq_iff_eq.2 q6) (by rw [H4.out]; simp))
         rw [hout]
         clear hout
         go_enter Tryz.func18, Tryz.ntmps18
         have hcx := HXA.out.1.1; have hlx := HXA.out.1.2.2; have hcy := HXA.out.2.1; have hly := HXA.out.2.2.2
         go_wp2_with fail
         go_ret
         exact ⟨rfl, HB0.out⟩
       · skip
         have h4n : (xb != yb) = false := by unfold bne; rw [h4]; rfl
         have H4 := hid h4
         have HSE := hid (fun W (hb : Below w.heap.size w W) => eqStr na na2 nn nc nn2 nc2 xs ys W (HN.out.below hb rfl) (HN2.out.below hb rfl))
         have HVE := hid (fun W (hb : Below w.heap.size w W) => eqTo va va2 vn vc vn2 vc2 vs us W (HV.out.below hb rfl) (HV2.out.below hb rfl))
         go_enter Tryz.func18, Tryz.ntmps18
         have hcx := HXA.out.1.1; have hlx := HXA.out.1.2.2; have hcy := HXA.out.2.1; have hly := HXA.out.2.2.2
         go_wp2_with fail
         clear hcx hlx hcy hly
         refine (HSE.out _ HB0.out).mono ?_
         rintro e w1 ⟨rfl, hb⟩
         have HX1 := hid (keep2 HXA.out hb); have HB1 := hid (HB0.out.trans (hb.mono HB0.out.size))
         clear hb
         have hcx := HX1.out.1.1; have hlx := HX1.out.1.2.2; have hcy := HX1.out.2.1; have hly := HX1.out.2.2.2
         cases h5 : decide (xs = ys)
         · have H5 := hid h5
           have hout : out = false := by rw [HOUT.out]; exact decide_eq_false (fun e => by injection e with q1 q2 q3 q4 q5 q6; exact absurd q2 (of_decide_eq_false H5.out))
           rw [hout]
           clear h5
           go_wp2_with fail
           go_ret
           rw [hout]
           exact ⟨rfl, HB1.out⟩
         · have H5 := hid h5
           clear h5
           go_wp2_with fail
           refine (HVE.out _ HB1.out).mono ?_
           rintro e w2 ⟨rfl, hb⟩
           have HB2 := hid (HB1.out.trans (hb.mono HB1.out.size))
           clear hb hcx hlx hcy hly
           have hout : decide (vs = us) = out := by rw [HOUT.out, eq_of_beq H1.out, eq_of_beq H2.out, eq_of_beq H3.out, eq_of_beq H4.out, of_decide_eq_true H5.out]; exact decide_eq_decide.2 ⟨fun e => by rw [e], fun e => congrArg LnS.vers e⟩
           rw [hout]
           clear hout
           go_wp2_with fail
           go_ret
           exact ⟨rfl, HB2.out⟩
end Yd
