import Derived.Test.YthkpjdgmpjhhmaaGreatDoorSameE
import Derived.Test.YthkpjdgmpjhhmaaGreatDoorProg
import Derived.Test.YthkpjdgmpjhhmaaGreatDoorGround
import Derived.BigQuiet
set_option maxRecDepth 200000
set_option maxHeartbeats 8000000
namespace Yd
open Go Go.RowKit Go.Proofs

def allowB (nt : Nat) (ds : List Int) : Bool := decide (ds.length ≤ 300) && ds.all (fun x => toldB x nt)
theorem shape11 (h : HC) (x : Int) (bh : Nat) (w : World) (hH : Bx w bh (cellsH h)) : Calls Tryz.prog 97 #[.int .i64 x, .pointer (some ⟨bh, 0, none⟩)] w (Ret (.bool (toldB x h.t.n)) w) := by
 go_enter Tryz.func97, Tryz.ntmps97
 go_wp2_with (go_at_call 98; refine (told0 h _ _).mono ?_; rintro e w1 ⟨rfl, hb1⟩)
 go_ret
 exact ⟨rfl, hb1⟩

theorem shape1 (h : HC) (a : Option Addr) (n c : Nat) (ds : List Int) (bh : Nat) (w : World) (hH : Bx w bh (cellsH h)) (hr : Row w 1 encInt a n c ds) :
   Calls Tryz.prog 95 #[.slice a n c, .pointer (some ⟨bh, 0, none⟩)] w (Ret (.bool (allowB h.t.n ds)) w) := by
 have hA := allInt a n c 97 #[.pointer (some ⟨bh, 0, none⟩)] ds (fun x => toldB x h.t.n) w hr Tryz.call97
   (fun x _ W2 hW2 => shape11 h x bh W2 (hH.keep hW2))
 have hlen := hr.len
 have HA := hid hA; have HLEN := hid hlen
 clear hA hH hr hlen
 by_cases h3 : (n : Int) ≤ 300
 · have hq : allowB h.t.n ds = ds.all (fun x => toldB x h.t.n) := by simp [allowB, HLEN.out]; omega
   rw [hq]
   have HQ := hid hq; clear hq
   go_enter Tryz.func95, Tryz.ntmps95
   go_wp2_with (go_at_call 96; refine HA.out.mono ?_; rintro e w1 ⟨rfl, hb1⟩)
   go_ret
   exact ⟨rfl, hb1⟩
 · have hq : allowB h.t.n ds = false := by simp [allowB, HLEN.out]; omega
   rw [hq]
   clear hq
   go_enter Tryz.func95, Tryz.ntmps95
   go_wp2_with fail
   go_ret
   exact ⟨rfl, Below.refl _ _⟩

theorem shape2 (h : HC) (e : EvC) (scan : List Sn) (bh : Nat) (w : World) (hH : Bx w bh (cellsH h)) (hr : Row w 3 encSn e.sa e.sn e.sc scan) :
   Calls Tryz.prog 100 #[valEv e, .pointer (some ⟨bh, 0, none⟩)] w (Ret (.bool (evB h.t.n h.s.n h.o.n h.p.n e scan)) w) := by
 have hb0 : Below w.heap.size w (w.alloc (.cells (cellsEv e) 49)) := (Below.refl _ _).alloc (Nat.le_refl _) _
 have hE := event_any h e scan _ (hr.below hb0 rfl)
 have hH1 := hH.keep hb0
 have hlt := hH.2.2
 have HE := hid hE; have HB := hid hb0
 clear hE hb0 hr hH
 go_enter Tryz.func100, Tryz.ntmps100
 go_wp2_with (go_at_call 101; refine HE.out.mono ?_; rintro e w1 ⟨rfl, hb1⟩)
 go_ret
 exact ⟨rfl, HB.out.trans (hb1.mono HB.out.size)⟩

theorem shape3 (h : HC) (x : OrC) (ds : List Int) (bh b9 : Nat) (w : World) (hH : Bx w bh (cellsH h)) (h9 : Bx w b9 #[.func (.func 95) #[] #[.pointer (some ⟨bh, 0, none⟩)]]) (hr : Row w 1 encInt x.sa x.sn x.sc ds) :
   Calls Tryz.prog 103 #[valOr x, .pointer (some ⟨bh, 0, none⟩), .pointer (some ⟨b9, 0, none⟩)] w (Ret (.bool (toldB x.obj h.o.n && allowB h.t.n ds)) w) := by
 have hb0 : Below w.heap.size w (w.alloc (.cells (cellsOr x) 72)) := (Below.refl _ _).alloc (Nat.le_refl _) _
 have hX0 := Bx.new w (cellsOr x) 72
 have hH1 := hH.keep hb0; have h91 := h9.keep hb0
 have hlt := hH.2.2; have hlt9 := h9.2.2
 have HS := hid (⟨hX0, hH1, h91, hr.below hb0 rfl⟩ : Bx _ _ _ ∧ Bx _ _ _ ∧ Bx _ _ _ ∧ Row _ 1 encInt x.sa x.sn x.sc ds)
 have HB := hid hb0
 clear hX0 hb0 hr hH h9 hH1 h91
 cases hq : toldB x.obj h.o.n
 all_goals
   have HQ := hid hq; clear hq
   have hs := HS.out
   go_enter Tryz.func103, Tryz.ntmps103
   go_wp2_with fail
   refine (told2 h _ _).mono ?_
   rintro e w1 ⟨rfl, hb1⟩
   rw [HQ.out]
   clear hs
   have hs := keep3 (⟨HS.out.1, HS.out.2.1, HS.out.2.2.1⟩ : Bx _ _ _ ∧ Bx _ _ _ ∧ Bx _ _ _) hb1
   have HR := hid (HS.out.2.2.2.below hb1 rfl)
   have HB := hid (HB.out.trans (hb1.mono HB.out.size))
   have HSz := hid HB.out.size
   clear hb1
   go_wp2_with fail
 · go_ret
   exact ⟨rfl, HB.out⟩
 · refine (shape1 h x.sa x.sn x.sc ds bh w1 hs.2.1 HR.out).mono ?_
   rintro e w2 ⟨rfl, hb2⟩
   clear hs
   go_wp2_with fail
   go_ret
   exact ⟨rfl, HB.out.trans (hb2.mono HSz.out)⟩

theorem shape4 (h : HC) (x : MaC) (ds : List Int) (bh b9 : Nat) (w : World) (hH : Bx w bh (cellsH h)) (h9 : Bx w b9 #[.func (.func 95) #[] #[.pointer (some ⟨bh, 0, none⟩)]]) (hr : Row w 1 encInt x.sa x.sn x.sc ds) :
   Calls Tryz.prog 105 #[valMa x, .pointer (some ⟨bh, 0, none⟩), .pointer (some ⟨b9, 0, none⟩)] w (Ret (.bool (toldB x.pred h.p.n && toldB x.obj h.o.n && allowB h.t.n ds)) w) := by
 have hb0 : Below w.heap.size w (w.alloc (.cells (cellsMa x) 79)) := (Below.refl _ _).alloc (Nat.le_refl _) _
 have hX0 := Bx.new w (cellsMa x) 79
 have hH1 := hH.keep hb0; have h91 := h9.keep hb0
 have hlt := hH.2.2; have hlt9 := h9.2.2
 have HS := hid (⟨hX0, hH1, h91, hr.below hb0 rfl⟩ : Bx _ _ _ ∧ Bx _ _ _ ∧ Bx _ _ _ ∧ Row _ 1 encInt x.sa x.sn x.sc ds)
 have HB := hid hb0
 clear hX0 hb0 hr hH h9 hH1 h91
 cases hq : toldB x.pred h.p.n
 all_goals cases hq2 : toldB x.obj h.o.n
 all_goals
   have HQ := hid hq; have HQ2 := hid hq2; clear hq hq2
   have hs := HS.out
   go_enter Tryz.func105, Tryz.ntmps105
   go_wp2_with fail
   refine (told3 h _ _).mono ?_
   rintro e w1 ⟨rfl, hb1⟩
   rw [HQ.out]
   clear hs
   have hs := keep3 (⟨HS.out.1, HS.out.2.1, HS.out.2.2.1⟩ : Bx _ _ _ ∧ Bx _ _ _ ∧ Bx _ _ _) hb1
   have HT := hid hs
   have HR := hid (HS.out.2.2.2.below hb1 rfl)
   have HB := hid (HB.out.trans (hb1.mono HB.out.size))
   have HSz := hid HB.out.size
   clear hb1
   go_wp2_with fail
 · go_ret
   exact ⟨rfl, HB.out⟩
 · go_ret
   exact ⟨rfl, HB.out⟩
 all_goals
   refine (told2 h _ _).mono ?_
   rintro e w2 ⟨rfl, hb2⟩
   rw [HQ2.out]
   clear hs
   have hs := keep3 HT.out hb2
   have HR := hid (HR.out.below hb2 rfl)
   have HB := hid (HB.out.trans (hb2.mono HB.out.size))
   have HSz := hid HB.out.size
   clear hb2
   go_wp2_with fail
 · go_ret
   exact ⟨rfl, HB.out⟩
 · refine (shape1 h x.sa x.sn x.sc ds bh w2 hs.2.1 HR.out).mono ?_
   rintro e w3 ⟨rfl, hb3⟩
   clear hs
   go_wp2_with fail
   go_ret
   exact ⟨rfl, HB.out.trans (hb3.mono HSz.out)⟩

theorem shape5 (h : HC) (x : Wa) (bh : Nat) (w : World) (hH : Bx w bh (cellsH h)) :
   Calls Tryz.prog 107 #[valWa x, .pointer (some ⟨bh, 0, none⟩)] w (Ret (.bool (toldB x.ses h.s.n && decide (0 ≤ x.bits) && decide (x.bits ≤ 15))) w) := by
 have hb0 : Below w.heap.size w (w.alloc (.cells (cellsWa x) 82)) := (Below.refl _ _).alloc (Nat.le_refl _) _
 have hX0 := Bx.new w (cellsWa x) 82
 have hH1 := hH.keep hb0
 have hlt := hH.2.2
 have HS := hid (⟨hX0, hH1⟩ : Bx _ _ _ ∧ Bx _ _ _)
 have HB := hid hb0
 clear hX0 hb0 hH hH1
 obtain ⟨R, hR⟩ : ∃ R : Bool, R = (decide (0 ≤ x.bits) && decide (x.bits ≤ 15)) := ⟨_, rfl⟩
 rw [Bool.and_assoc, ← hR]
 have HF := hid hR; clear hR
 cases hq : toldB x.ses h.s.n
 all_goals
   have HQ := hid hq; clear hq
   have hs := HS.out
   go_enter Tryz.func107, Tryz.ntmps107
   go_wp2_with fail
   refine (told1 h _ _).mono ?_
   rintro e w1 ⟨rfl, hb1⟩
   rw [HQ.out]
   clear hs
   have hs := keep2 HS.out hb1
   have HB := hid (HB.out.trans (hb1.mono HB.out.size))
   clear hb1
   cases h1 : decide (0 ≤ x.bits)
   all_goals cases h2 : decide (x.bits ≤ 15)
   all_goals
     go_wp2_with fail
     go_ret
     exact ⟨by rw [HF.out, h1, h2]; rfl, HB.out⟩
end Yd
