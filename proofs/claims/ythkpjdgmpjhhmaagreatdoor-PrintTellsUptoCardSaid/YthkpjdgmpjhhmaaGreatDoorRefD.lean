import Derived.Test.YthkpjdgmpjhhmaaGreatDoorRefC
import Derived.Test.YthkpjdgmpjhhmaaGreatDoorCheck
import Derived.Test.YthkpjdgmpjhhmaaGreatDoorProg
set_option maxRecDepth 200000
set_option maxHeartbeats 8000000
namespace Yd
open Go Go.RowKit Go.Proofs

theorem snoc_ind {α : Type} {P : List α → Prop} (h0 : P []) (h1 : ∀ xs x, P xs → P (xs ++ [x])) (xs : List α) : P xs := by
 have h : ∀ ys : List α, P ys.reverse := by
   intro ys
   induction ys with
   | nil => exact h0
   | cons y ys ih => rw [List.reverse_cons]; exact h1 _ _ ih
 simpa using h xs.reverse
def up (n : Nat) : List Int := (List.range n).map fun i : Nat => (i : Int)
theorem up_len (n : Nat) : (up n).length = n := by simp [up]
theorem up_succ (n : Nat) : up (n + 1) = up n ++ [(n : Int)] := by simp [up, List.range_succ]
theorem up_get {n i : Nat} (h : i < n) : (up n)[i]? = some (i : Int) := by simp [up, h]
theorem up_mem {n : Nat} {x : Int} (h0 : 0 ≤ x) : x ∈ up n ↔ x < n := by
 unfold up
 simp only [List.mem_map, List.mem_range]
 constructor
 · rintro ⟨a, h, rfl⟩; omega
 · intro h; exact ⟨x.toNat, by omega, by omega⟩
theorem up_inj {n m : Nat} (h : up n = up m) : n = m := by have := congrArg List.length h; rwa [up_len, up_len] at this
theorem fstI_prefix (l : List Int) (x : Int) : l <+: fstI l x := by
 unfold fstI
 split
 · exact List.prefix_refl _
 · exact List.prefix_append _ _
theorem Fst_prefix (xs : List (Int × Int)) (x : Int × Int) (s : Int) : Fst xs s <+: Fst (xs ++ [x]) s := by
 rw [Fst_snoc]
 split
 · exact fstI_prefix _ _
 · exact List.prefix_refl _
theorem num_first (xs : List (Int × Int)) : (∀ x ∈ xs, numOk x) →
   ((numF xs).2 = true ∧ ∀ s : Nat, ∃ m : Nat, (numF xs).1 s = m ∧ Fst xs s = up m) ∨ ((numF xs).2 = false ∧ ∃ s : Nat, s < 4 ∧ ∀ n, ¬ Fst xs s <+: up n) := by
 refine snoc_ind (P := fun xs => (∀ x ∈ xs, numOk x) → ((numF xs).2 = true ∧ ∀ s : Nat, ∃ m : Nat, (numF xs).1 s = m ∧ Fst xs s = up m) ∨ ((numF xs).2 = false ∧ ∃ s : Nat, s < 4 ∧ ∀ n, ¬ Fst xs s <+: up n)) ?_ ?_ xs
 · intro _
   exact .inl ⟨rfl, fun s => ⟨0, rfl, rfl⟩⟩
 · intro xs x ih hx
   have hx0 := hx x (by simp)
   rcases ih (fun y hy => hx y (List.mem_append_left _ hy)) with ⟨h2, hs⟩ | ⟨h2, s, hs4, hn⟩
   · obtain ⟨a, n⟩ := x
     obtain ⟨⟨ha0, ha4⟩, hn0, _⟩ := hx0
     simp only at ha0 ha4 hn0
     obtain ⟨s, rfl⟩ : ∃ s : Nat, a = s := ⟨a.toNat, by omega⟩
     obtain ⟨m, hm, hf⟩ := hs s
     by_cases hle : n ≤ m
     · left
       have hst : numF (xs ++ [((s : Int), n)]) = (fun i => if i = s then (if n + 1 > (numF xs).1 i then n + 1 else (numF xs).1 i) else (numF xs).1 i, true) := by
         rw [numF_snoc, ← numS_yes (b := (numF xs).2) h2 (by rw [hm]; exact hle)]
       rw [hst]
       refine ⟨rfl, fun t => ?_⟩
       by_cases hts : t = s
       · subst hts
         rw [Fst_snoc, if_pos rfl, hf]
         simp only [if_pos]
         rw [hm]
         by_cases hlt : n < m
         · refine ⟨m, by rw [if_neg (by omega)], ?_⟩
           unfold fstI
           rw [if_pos ((up_mem hn0).2 hlt)]
         · have hnm : n = m := by omega
           refine ⟨m + 1, by rw [if_pos (by omega), hnm]; rfl, ?_⟩
           unfold fstI
           rw [if_neg (fun h => hlt ((up_mem hn0).1 h)), up_succ, hnm]
       · obtain ⟨k, hk, hfk⟩ := hs t
         refine ⟨k, by simp only [if_neg hts]; exact hk, ?_⟩
         rw [Fst_snoc, if_neg (by simp; omega)]
         exact hfk
     · right
       refine ⟨by rw [numF_snoc]; exact numS_no (by show n > (numF xs).1 (s : Int).toNat; rw [Int.toNat_natCast, hm]; omega), s, by omega, fun k hp => ?_⟩
       rw [Fst_snoc, if_pos rfl, hf] at hp
       unfold fstI at hp
       rw [if_neg (fun h => by have := (up_mem hn0).1 h; omega)] at hp
       have hg : (up m ++ [n])[m]? = some n := by rw [List.getElem?_append_right (by rw [up_len]; exact Nat.le_refl _), up_len]; simp
       obtain ⟨t, ht⟩ := hp
       have hl := congrArg List.length ht
       rw [List.length_append, List.length_append, up_len, up_len] at hl
       simp at hl
       have hk : (up k)[m]? = some n := by rw [← ht, List.getElem?_append_left (by rw [List.length_append, up_len]; simp)]; exact hg
       rw [up_get (by omega)] at hk
       injection hk with hk
       omega
   · right
     refine ⟨by rw [numF_snoc]; unfold numS; rw [if_neg (by rw [h2]; simp)], s, hs4, fun n hp => hn n ((Fst_prefix xs x s).trans hp)⟩
theorem num_all {xs : List (Int × Int)} (hx : ∀ x ∈ xs, numOk x) (N : Nat → Nat) :
   ((numF xs).2 && (List.range 4).all (fun i => decide ((numF xs).1 i = (N i : Int)))) = (List.range 4).all (fun i : Nat => decide (Fst xs i = up (N i))) := by
 rcases num_first xs hx with ⟨h2, hs⟩ | ⟨h2, s, hs4, hn⟩
 · rw [h2, Bool.true_and]
   congr 1
   funext i
   obtain ⟨m, hm, hf⟩ := hs i
   rw [hm, hf]
   refine decide_eq_decide.2 ⟨fun h => by rw [Int.ofNat_inj.1 h], fun h => by rw [up_inj h]⟩
 · rw [h2, Bool.false_and]
   symm
   rw [← Bool.not_eq_true, List.all_eq_true]
   intro h
   have := of_decide_eq_true (h s (by simpa using hs4))
   exact hn (N s) (by rw [this]; exact List.prefix_refl _)
theorem check_lists {h : HC} {nl : Nat → List Bs} {es : List EvC} {ds : List OrC} {ms : List MaC} {qs : List Wa} {scan : EvC → List Sn} {dn : OrC → List Int} {mn : MaC → List Int} (hs : shapedB h nl es ds ms qs scan dn mn = true)
   (hlen : ∀ i, i < 4 → (nl i).length = (h.nm i).n) : checkB h nl es ds ms qs scan dn mn = (List.range 4).all (fun i : Nat => decide (Fst (spokenL es ds ms qs scan dn mn) i = up (h.nm i).n)) := by
 unfold checkB
 rw [hs, Bool.true_and, num_all (spoken_ok hs hlen) (fun i => (h.nm i).n)]
end Yd


namespace Yd
open Go Go.RowKit Go.Proofs
attribute [local go_sem] Oper.semAt_some

theorem ixS0 (a0 a1 a2 a3 : Option Addr) (n0 n1 n2 n3 c0 c1 c2 c3 : Nat) (w : World) : (Instr.index 108 (.agg #[.slice a0 n0 c0, .slice a1 n1 c1, .slice a2 n2 c2, .slice a3 n3 c3]) (.int .i64 0)).run Tryz.prog w = .ok (.slice a0 n0 c0) w := by kernel_rfl
theorem ixI0 (a0 a1 a2 a3 : Int) (w : World) : (Instr.index 110 (.agg #[.int .i64 a0, .int .i64 a1, .int .i64 a2, .int .i64 a3]) (.int .i64 0)).run Tryz.prog w = .ok (.int .i64 a0) w := by kernel_rfl
theorem ixS1 (a0 a1 a2 a3 : Option Addr) (n0 n1 n2 n3 c0 c1 c2 c3 : Nat) (w : World) : (Instr.index 108 (.agg #[.slice a0 n0 c0, .slice a1 n1 c1, .slice a2 n2 c2, .slice a3 n3 c3]) (.int .i64 1)).run Tryz.prog w = .ok (.slice a1 n1 c1) w := by kernel_rfl
theorem ixI1 (a0 a1 a2 a3 : Int) (w : World) : (Instr.index 110 (.agg #[.int .i64 a0, .int .i64 a1, .int .i64 a2, .int .i64 a3]) (.int .i64 1)).run Tryz.prog w = .ok (.int .i64 a1) w := by kernel_rfl
theorem ixS2 (a0 a1 a2 a3 : Option Addr) (n0 n1 n2 n3 c0 c1 c2 c3 : Nat) (w : World) : (Instr.index 108 (.agg #[.slice a0 n0 c0, .slice a1 n1 c1, .slice a2 n2 c2, .slice a3 n3 c3]) (.int .i64 2)).run Tryz.prog w = .ok (.slice a2 n2 c2) w := by kernel_rfl
theorem ixI2 (a0 a1 a2 a3 : Int) (w : World) : (Instr.index 110 (.agg #[.int .i64 a0, .int .i64 a1, .int .i64 a2, .int .i64 a3]) (.int .i64 2)).run Tryz.prog w = .ok (.int .i64 a2) w := by kernel_rfl
theorem ixS3 (a0 a1 a2 a3 : Option Addr) (n0 n1 n2 n3 c0 c1 c2 c3 : Nat) (w : World) : (Instr.index 108 (.agg #[.slice a0 n0 c0, .slice a1 n1 c1, .slice a2 n2 c2, .slice a3 n3 c3]) (.int .i64 3)).run Tryz.prog w = .ok (.slice a3 n3 c3) w := by kernel_rfl
theorem ixI3 (a0 a1 a2 a3 : Int) (w : World) : (Instr.index 110 (.agg #[.int .i64 a0, .int .i64 a1, .int .i64 a2, .int .i64 a3]) (.int .i64 3)).run Tryz.prog w = .ok (.int .i64 a3) w := by kernel_rfl
theorem r_Right (h : HC) (nl : Nat → List Bs) (es : List EvC) (ds : List OrC) (ms : List MaC) (qs : List Wa) (scan : EvC → List Sn) (dn : OrC → List Int) (mn : MaC → List Int) (w : World)
   (hn : ∀ i, i < 4 → Row w 1 encStr (h.nm i).a (h.nm i).n (h.nm i).c (nl i)) (hd : Deep w h es ds ms qs scan dn mn) :
   Calls Tryz.prog 15 #[valH h] w (Ret (.bool (checkB h nl es ds ms qs scan dn mn)) w) := by
 obtain ⟨R, hR⟩ : ∃ R : Bool, R = checkB h nl es ds ms qs scan dn mn := ⟨_, rfl⟩
 rw [← hR]
 have hb0 := belowA (Below.refl w.heap.size w) (.cells (cellsH h) 28)
 have HSHC := hid (r_Shaped h nl es ds ms qs scan dn mn _ (fun i hi => (hn i hi).below hb0 rfl) (hd.below hb0 rfl))
 have HSPC : Hid (∀ W, Below w.heap.size w W → shapedB h nl es ds ms qs scan dn mn = true → Calls Tryz.prog 48 #[valH h] W (RetS (spokenL es ds ms qs scan dn mn) W)) := hid (fun W hb => r_Spoken h nl es ds ms qs scan dn mn W (fun i hi => (hn i hi).below hb rfl) (hd.below hb rfl))
 have HCL : Hid (shapedB h nl es ds ms qs scan dn mn = true → R = (List.range 4).all (fun i : Nat => decide (Fst (spokenL es ds ms qs scan dn mn) i = up (h.nm i).n))) := hid (fun hs => by rw [hR]; exact check_lists hs (fun i hi => (hn i hi).len))
 have HCN : Hid (shapedB h nl es ds ms qs scan dn mn = false → R = false) := hid (fun hs => by rw [hR]; unfold checkB; rw [hs]; rfl)
 obtain ⟨S, hS⟩ : ∃ S : Bool, S = shapedB h nl es ds ms qs scan dn mn := ⟨_, rfl⟩
 obtain ⟨xs, hxs⟩ : ∃ xs, xs = spokenL es ds ms qs scan dn mn := ⟨_, rfl⟩
 rw [← hS] at HSHC HSPC HCL HCN
 rw [← hxs] at HSPC HCL
 have hl0 : (h.nm 0).n ≤ 140737488355328 := (hn 0 (by decide)).le
 have hl1 : (h.nm 1).n ≤ 140737488355328 := (hn 1 (by decide)).le
 have hl2 : (h.nm 2).n ≤ 140737488355328 := (hn 2 (by decide)).le
 have hl3 : (h.nm 3).n ≤ 140737488355328 := (hn 3 (by decide)).le
 have HB0 := hid hb0; have HX0 := hid (Bx.new w (cellsH h) 28)
 clear hR hn hd hS hxs hb0
 obtain ⟨⟨ta, tn, tc⟩, ⟨sa, sn, sc⟩, ⟨oa, on, oc⟩, ⟨pa, pn, pc⟩, ⟨ea, en, ec⟩, ⟨da, dn_, dc⟩, ⟨ma, mn_, mc⟩, ⟨wa, wn, wc⟩⟩ := h
 obtain ⟨tn, rfl⟩ : ∃ x, x = tn := ⟨_, rfl⟩
 change tn ≤ _ at hl0; change sn ≤ _ at hl1; change on ≤ _ at hl2; change pn ≤ _ at hl3
 have HCB : Hid (Bx (w.alloc (.cells #[.slice ta tn tc, .slice sa sn sc, .slice oa on oc, .slice pa pn pc, .slice ea en ec, .slice da dn_ dc, .slice ma mn_ mc, .slice wa wn wc] 28)) w.heap.size #[.slice ta tn tc, .slice sa sn sc, .slice oa on oc, .slice pa pn pc, .slice ea en ec, .slice da dn_ dc, .slice ma mn_ mc, .slice wa wn wc]) := hid HX0.out
 clear HX0
 go_enter Tryz.func15, Tryz.ntmps15
 have hcx := HCB.out.1; have hlx := HCB.out.2.2
 go_wp2_with fail
 clear hcx hlx
 refine HSHC.out.mono ?_
 rintro e w1 ⟨rfl, hb1⟩
 have HB1 := hid (HB0.out.trans (hb1.mono HB0.out.size)); have HX1 := hid (HCB.out.keep hb1)
 clear hb1
 have hcx := HX1.out.1; have hlx := HX1.out.2.2
 cases S
 · have HQ := hid (HCN.out rfl)
   go_wp2_with fail
   go_ret
   exact ⟨by rw [HQ.out]; rfl, HB1.out⟩
 go_wp2_with fail
 clear hcx hlx
 refine (HSPC.out _ HB1.out trivial).mono ?_
 rintro e w2 ⟨c, rfl, hrow, hb2⟩
 have HB2 := hid (HB1.out.trans (hb2.mono HB1.out.size)); have HX2 := hid (HX1.out.keep hb2)
 have HF := hid (HCL.out trivial)
 obtain ⟨a0, n0, c0, e0, hr0⟩ := hrow 0 (by decide)
 obtain ⟨a1, n1, c1, e1, hr1⟩ := hrow 1 (by decide)
 obtain ⟨a2, n2, c2, e2, hr2⟩ := hrow 2 (by decide)
 obtain ⟨a3, n3, c3, e3, hr3⟩ := hrow 3 (by decide)
 rw [e0, e1, e2, e3]
 have HR0 := hid hr0; have HR1 := hid hr1; have HR2 := hid hr2; have HR3 := hid hr3
 have hm0 := hr0.le; have hm1 := hr1.le; have hm2 := hr2.le; have hm3 := hr3.le
 have hk0 := hr0.cap; have hk1 := hr1.cap; have hk2 := hr2.cap; have hk3 := hr3.cap
 clear hb2 hrow hr0 hr1 hr2 hr3 e0 e1 e2 e3 c
 have hcx := HX2.out.1; have hlx := HX2.out.2.2
 go_wp2_with fail
 go_loopw [13] (fun i wr => ∃ k : Int, 0 ≤ k ∧ k ≤ 4 ∧ i = .int .i64 k ∧ (∀ s : Nat, s < 4 → (s : Int) < k → Fst xs s = up (HC.nm ⟨⟨ta, tn, tc⟩, ⟨sa, sn, sc⟩, ⟨oa, on, oc⟩, ⟨pa, pn, pc⟩, ⟨ea, en, ec⟩, ⟨da, dn_, dc⟩, ⟨ma, mn_, mc⟩, ⟨wa, wn, wc⟩⟩ s).n) ∧ Below w2.heap.size w2 wr) (fun i _ => 4 - (RowKit.intOf i).toNat)
 case atStart => exact ⟨0, by decide, by decide, rfl, fun s _ h => by omega, Below.refl _ _⟩
 case round =>
   clear hcx hlx
   obtain ⟨k, hk, hk4, rfl, hup, hb⟩ := hrel
   have HU := hid hup; have HBR := hid hb; have HXR := hid (HX2.out.keep hb)
   clear hup hb
   have hcx := HXR.out.1; have hlx := HXR.out.2.2
   by_cases hlt : k < 4
   · have hcase : k = 0 ∨ k = 1 ∨ k = 2 ∨ k = 3 := by omega
     clear hk hk4 hlt
     rcases hcase with rfl | rfl | rfl | rfl
     · have HNO : Hid (Fst xs (0 : Nat) ≠ up tn → R = false) := hid (fun hne => by
         rw [HF.out, ← Bool.not_eq_true, List.all_eq_true]
         intro hh
         exact hne (of_decide_eq_true (hh 0 (by simp))))
       have hix := fun W => ixS0 a0 a1 a2 a3 n0 n1 n2 n3 c0 c1 c2 c3 W
       have hii := fun W => ixI0 tn sn on pn W
       by_cases hlen : n0 = tn
       · subst hlen
         go_wp2_with fail
         go_loopw [38] (fun i wv => ∃ j : Nat, j ≤ n0 ∧ i = .int .i64 j ∧ (Fst xs (0 : Nat)).take j = up j ∧ Below w2.heap.size w2 wv) (fun i _ => n0 - (RowKit.intOf i).toNat)
         case atStart => exact ⟨0, Nat.zero_le _, rfl, rfl, HBR.out⟩
         case round =>
           clear hcx hlx hix hii
           obtain ⟨j, hj, rfl, htk, hb⟩ := hrel
           have HTK := hid htk; have HBV := hid hb
           clear htk hb
           by_cases hlj : j < n0
           · obtain ⟨y, b, o, hy, rfl, hc⟩ := (HR0.out.below HBV.out rfl).at_ hlj
             have f0 := hc 0 _ rfl
             simp only [Nat.mul_one, Nat.add_zero] at f0
             have HY := hid hy
             clear hc hy
             by_cases he : (j : Int) = y
             · subst he
               go_wp2_with fail
               go_roundw
               case rel => exact ⟨j + 1, by omega, by go_num, by rw [List.take_add_one, HTK.out, HY.out, up_succ]; rfl, HBV.out⟩
               case measure => simp [RowKit.intOf]; omega
             · have HQ : Hid (R = false) := hid (HNO.out (fun e => by
                 have := HY.out
                 rw [e, up_get hlj] at this
                 injection this with this
                 exact he this))
               have hne : ((j : Int) == y) = false := by simpa using he
               clear he
               go_wp2_with fail
               go_ret
               exact ⟨by rw [HQ.out]; rfl, HB2.out.trans (HBV.out.mono HB2.out.size)⟩
           · obtain rfl : n0 = j := by omega
             have HE := hid (show Fst xs (0 : Nat) = up n0 from by have := HTK.out; rwa [all_take HR0.out.len] at this)
             go_wp2_with fail
             go_roundw
             case rel => exact ⟨1, by decide, by decide, by first | rfl | go_num, fun s h4 hs => by
               by_cases hsk : (s : Int) < 0
               · exact HU.out s h4 hsk
               · obtain rfl : s = 0 := by omega
                 exact HE.out, HBV.out⟩
             case measure => first | decide | (simp [RowKit.intOf])
       · have HQ : Hid (R = false) := hid (HNO.out (fun e => by
           have := HR0.out.len
           rw [e, up_len] at this
           exact hlen this.symm))
         have hne : (((n0 : Nat) : Int) == ((tn : Nat) : Int)) = false := by simpa using (fun e => hlen (by omega))
         clear hlen
         go_wp2_with fail
         go_ret
         exact ⟨by rw [HQ.out]; rfl, HB2.out.trans (HBR.out.mono HB2.out.size)⟩
     · have HNO : Hid (Fst xs (1 : Nat) ≠ up sn → R = false) := hid (fun hne => by
         rw [HF.out, ← Bool.not_eq_true, List.all_eq_true]
         intro hh
         exact hne (of_decide_eq_true (hh 1 (by simp))))
       have hix := fun W => ixS1 a0 a1 a2 a3 n0 n1 n2 n3 c0 c1 c2 c3 W
       have hii := fun W => ixI1 tn sn on pn W
       by_cases hlen : n1 = sn
       · subst hlen
         go_wp2_with fail
         go_loopw [38] (fun i wv => ∃ j : Nat, j ≤ n1 ∧ i = .int .i64 j ∧ (Fst xs (1 : Nat)).take j = up j ∧ Below w2.heap.size w2 wv) (fun i _ => n1 - (RowKit.intOf i).toNat)
         case atStart => exact ⟨0, Nat.zero_le _, rfl, rfl, HBR.out⟩
         case round =>
           clear hcx hlx hix hii
           obtain ⟨j, hj, rfl, htk, hb⟩ := hrel
           have HTK := hid htk; have HBV := hid hb
           clear htk hb
           by_cases hlj : j < n1
           · obtain ⟨y, b, o, hy, rfl, hc⟩ := (HR1.out.below HBV.out rfl).at_ hlj
             have f0 := hc 0 _ rfl
             simp only [Nat.mul_one, Nat.add_zero] at f0
             have HY := hid hy
             clear hc hy
             by_cases he : (j : Int) = y
             · subst he
               go_wp2_with fail
               go_roundw
               case rel => exact ⟨j + 1, by omega, by go_num, by rw [List.take_add_one, HTK.out, HY.out, up_succ]; rfl, HBV.out⟩
               case measure => simp [RowKit.intOf]; omega
             · have HQ : Hid (R = false) := hid (HNO.out (fun e => by
                 have := HY.out
                 rw [e, up_get hlj] at this
                 injection this with this
                 exact he this))
               have hne : ((j : Int) == y) = false := by simpa using he
               clear he
               go_wp2_with fail
               go_ret
               exact ⟨by rw [HQ.out]; rfl, HB2.out.trans (HBV.out.mono HB2.out.size)⟩
           · obtain rfl : n1 = j := by omega
             have HE := hid (show Fst xs (1 : Nat) = up n1 from by have := HTK.out; rwa [all_take HR1.out.len] at this)
             go_wp2_with fail
             go_roundw
             case rel => exact ⟨2, by decide, by decide, by first | rfl | go_num, fun s h4 hs => by
               by_cases hsk : (s : Int) < 1
               · exact HU.out s h4 hsk
               · obtain rfl : s = 1 := by omega
                 exact HE.out, HBV.out⟩
             case measure => first | decide | (simp [RowKit.intOf])
       · have HQ : Hid (R = false) := hid (HNO.out (fun e => by
           have := HR1.out.len
           rw [e, up_len] at this
           exact hlen this.symm))
         have hne : (((n1 : Nat) : Int) == ((sn : Nat) : Int)) = false := by simpa using (fun e => hlen (by omega))
         clear hlen
         go_wp2_with fail
         go_ret
         exact ⟨by rw [HQ.out]; rfl, HB2.out.trans (HBR.out.mono HB2.out.size)⟩
     · have HNO : Hid (Fst xs (2 : Nat) ≠ up on → R = false) := hid (fun hne => by
         rw [HF.out, ← Bool.not_eq_true, List.all_eq_true]
         intro hh
         exact hne (of_decide_eq_true (hh 2 (by simp))))
       have hix := fun W => ixS2 a0 a1 a2 a3 n0 n1 n2 n3 c0 c1 c2 c3 W
       have hii := fun W => ixI2 tn sn on pn W
       by_cases hlen : n2 = on
       · subst hlen
         go_wp2_with fail
         go_loopw [38] (fun i wv => ∃ j : Nat, j ≤ n2 ∧ i = .int .i64 j ∧ (Fst xs (2 : Nat)).take j = up j ∧ Below w2.heap.size w2 wv) (fun i _ => n2 - (RowKit.intOf i).toNat)
         case atStart => exact ⟨0, Nat.zero_le _, rfl, rfl, HBR.out⟩
         case round =>
           clear hcx hlx hix hii
           obtain ⟨j, hj, rfl, htk, hb⟩ := hrel
           have HTK := hid htk; have HBV := hid hb
           clear htk hb
           by_cases hlj : j < n2
           · obtain ⟨y, b, o, hy, rfl, hc⟩ := (HR2.out.below HBV.out rfl).at_ hlj
             have f0 := hc 0 _ rfl
             simp only [Nat.mul_one, Nat.add_zero] at f0
             have HY := hid hy
             clear hc hy
             by_cases he : (j : Int) = y
             · subst he
               go_wp2_with fail
               go_roundw
               case rel => exact ⟨j + 1, by omega, by go_num, by rw [List.take_add_one, HTK.out, HY.out, up_succ]; rfl, HBV.out⟩
               case measure => simp [RowKit.intOf]; omega
             · have HQ : Hid (R = false) := hid (HNO.out (fun e => by
                 have := HY.out
                 rw [e, up_get hlj] at this
                 injection this with this
                 exact he this))
               have hne : ((j : Int) == y) = false := by simpa using he
               clear he
               go_wp2_with fail
               go_ret
               exact ⟨by rw [HQ.out]; rfl, HB2.out.trans (HBV.out.mono HB2.out.size)⟩
           · obtain rfl : n2 = j := by omega
             have HE := hid (show Fst xs (2 : Nat) = up n2 from by have := HTK.out; rwa [all_take HR2.out.len] at this)
             go_wp2_with fail
             go_roundw
             case rel => exact ⟨3, by decide, by decide, by first | rfl | go_num, fun s h4 hs => by
               by_cases hsk : (s : Int) < 2
               · exact HU.out s h4 hsk
               · obtain rfl : s = 2 := by omega
                 exact HE.out, HBV.out⟩
             case measure => first | decide | (simp [RowKit.intOf])
       · have HQ : Hid (R = false) := hid (HNO.out (fun e => by
           have := HR2.out.len
           rw [e, up_len] at this
           exact hlen this.symm))
         have hne : (((n2 : Nat) : Int) == ((on : Nat) : Int)) = false := by simpa using (fun e => hlen (by omega))
         clear hlen
         go_wp2_with fail
         go_ret
         exact ⟨by rw [HQ.out]; rfl, HB2.out.trans (HBR.out.mono HB2.out.size)⟩
     · have HNO : Hid (Fst xs (3 : Nat) ≠ up pn → R = false) := hid (fun hne => by
         rw [HF.out, ← Bool.not_eq_true, List.all_eq_true]
         intro hh
         exact hne (of_decide_eq_true (hh 3 (by simp))))
       have hix := fun W => ixS3 a0 a1 a2 a3 n0 n1 n2 n3 c0 c1 c2 c3 W
       have hii := fun W => ixI3 tn sn on pn W
       by_cases hlen : n3 = pn
       · subst hlen
         go_wp2_with fail
         go_loopw [38] (fun i wv => ∃ j : Nat, j ≤ n3 ∧ i = .int .i64 j ∧ (Fst xs (3 : Nat)).take j = up j ∧ Below w2.heap.size w2 wv) (fun i _ => n3 - (RowKit.intOf i).toNat)
         case atStart => exact ⟨0, Nat.zero_le _, rfl, rfl, HBR.out⟩
         case round =>
           clear hcx hlx hix hii
           obtain ⟨j, hj, rfl, htk, hb⟩ := hrel
           have HTK := hid htk; have HBV := hid hb
           clear htk hb
           by_cases hlj : j < n3
           · obtain ⟨y, b, o, hy, rfl, hc⟩ := (HR3.out.below HBV.out rfl).at_ hlj
             have f0 := hc 0 _ rfl
             simp only [Nat.mul_one, Nat.add_zero] at f0
             have HY := hid hy
             clear hc hy
             by_cases he : (j : Int) = y
             · subst he
               go_wp2_with fail
               go_roundw
               case rel => exact ⟨j + 1, by omega, by go_num, by rw [List.take_add_one, HTK.out, HY.out, up_succ]; rfl, HBV.out⟩
               case measure => simp [RowKit.intOf]; omega
             · have HQ : Hid (R = false) := hid (HNO.out (fun e => by
                 have := HY.out
                 rw [e, up_get hlj] at this
                 injection this with this
                 exact he this))
               have hne : ((j : Int) == y) = false := by simpa using he
               clear he
               go_wp2_with fail
               go_ret
               exact ⟨by rw [HQ.out]; rfl, HB2.out.trans (HBV.out.mono HB2.out.size)⟩
           · obtain rfl : n3 = j := by omega
             have HE := hid (show Fst xs (3 : Nat) = up n3 from by have := HTK.out; rwa [all_take HR3.out.len] at this)
             go_wp2_with fail
             go_roundw
             case rel => exact ⟨4, by decide, by decide, by first | rfl | go_num, fun s h4 hs => by
               by_cases hsk : (s : Int) < 3
               · exact HU.out s h4 hsk
               · obtain rfl : s = 3 := by omega
                 exact HE.out, HBV.out⟩
             case measure => first | decide | (simp [RowKit.intOf])
       · have HQ : Hid (R = false) := hid (HNO.out (fun e => by
           have := HR3.out.len
           rw [e, up_len] at this
           exact hlen this.symm))
         have hne : (((n3 : Nat) : Int) == ((pn : Nat) : Int)) = false := by simpa using (fun e => hlen (by omega))
         clear hlen
         go_wp2_with fail
         go_ret
         exact ⟨by rw [HQ.out]; rfl, HB2.out.trans (HBR.out.mono HB2.out.size)⟩
   · obtain rfl : k = 4 := by omega
     have HQ : Hid (R = true) := hid (by
       rw [HF.out, List.all_eq_true]
       intro s hs
       exact decide_eq_true (HU.out s (by simpa using hs) (by have := List.mem_range.1 hs; omega)))
     clear hk hk4 hlt
     go_wp2_with fail
     go_ret
     exact ⟨by rw [HQ.out]; rfl, HB2.out.trans (HBR.out.mono HB2.out.size)⟩
end Yd
