import Derived.Test.YthkpjdgmpjhhmaaGreatDoorSpokenB
import Derived.Test.YthkpjdgmpjhhmaaGreatDoorGround
import Derived.Test.YthkpjdgmpjhhmaaGreatDoorProg
set_option maxRecDepth 200000
set_option maxHeartbeats 8000000
namespace Yd
open Go Go.RowKit Go.Proofs

def On (J Jx : List (Int × Int) → World → Prop) (xs : List (Int × Int)) (l bh bp : Nat) (h : HC) (w W : World) (rest : List (Int × Int)) (X : World) : Prop :=
 (∃ pre, pre ++ rest = xs ∧ At J Jx xs W.heap.size l pre X) ∧ Reads w X ∧ Bx X bh (cellsH h) ∧ Bx X bp #[.pointer (some ⟨bh, 0, none⟩)] ∧ w.heap.size ≤ X.heap.size
section
variable {J Jx : List (Int × Int) → World → Prop} {D : Nat → Prop} {xs : List (Int × Int)} {l bh bp : Nat} {h : HC} {w W : World}
theorem On.step {rest : List (Int × Int)} {pre : List (Int × Int)} {X Y : World} {e : Ending} (hX : Reads w X ∧ Bx X bh (cellsH h) ∧ Bx X bp #[.pointer (some ⟨bh, 0, none⟩)] ∧ w.heap.size ≤ X.heap.size) (hs : Said J Jx D xs W.heap.size l pre X e Y) (hp : pre ++ rest = xs)
   (hDw : ∀ i, i < w.heap.size → D i) (hDh : D bh) (hDp : D bp) (hw : w.heap.size ≤ W.heap.size) (hbh : bh < W.heap.size) (hbp : bp < W.heap.size) : On J Jx xs l bh bp h w W rest Y := by
 obtain ⟨h1, h2, h3, h4⟩ := hX
 obtain ⟨_, hA, hk⟩ := hs
 exact ⟨⟨pre, hp, hA⟩, h1.keep hk (fun i hi => ⟨hDw i hi, by omega⟩) h4, hk.bx h2 ⟨hDh, by omega⟩, hk.bx h3 ⟨hDp, by omega⟩, Nat.le_trans h4 hk.1⟩
theorem On.fn {rest : List (Int × Int)} {X : World} (hX : On J Jx xs l bh bp h w W rest X) : Bx X (W.heap.size + 2) #[.func (.func 109) #[] #[.pointer (some ⟨W.heap.size + 1, 0, none⟩), .pointer (some ⟨W.heap.size, 0, none⟩)]] := by
 obtain ⟨⟨pre, hp, a0, a2, a1⟩, _⟩ := hX; exact a2
theorem On.drew {rest : List (Int × Int)} {X : World} (hJ : ∀ s X Y, J s X → Same (fun i => i < W.heap.size ∨ W.heap.size + 3 ≤ i) X Y → J s Y) (hJx : ∀ s X Y, Jx s X → Same (fun i => i < W.heap.size ∨ W.heap.size + 3 ≤ i) X Y → Jx s Y)
   (hX : On J Jx xs l bh bp h w W rest X) : On J Jx xs l bh bp h w W rest X.drew := by
 obtain ⟨⟨pre, hp, a0, a2, a1⟩, h1, h2, h3, h4⟩ := hX
 refine ⟨⟨pre, hp, a0.drew, a2.drew, ?_⟩, h1, h2.drew, h3.drew, h4⟩
 rcases a1 with ⟨k1, hj⟩ | ⟨k1, p, hpx, hj⟩
 · exact .inl ⟨k1.drew, hJ _ _ _ hj (Same.of_below ((Below.refl X.heap.size X).drew) (fun i _ hi => hi))⟩
 · exact .inr ⟨k1.drew, p, hpx, hJx _ _ _ hj (Same.of_below ((Below.refl X.heap.size X).drew) (fun i _ hi => hi))⟩
end

theorem spoken_iter (h : HC) (es : List EvC) (ds : List OrC) (ms : List MaC) (qs : List Wa) (scan : EvC → List Sn) (dn : OrC → List Int) (mn : MaC → List Int) (bh bp : Nat) (D : Nat → Prop) (w W : World)
   (hd : Deep w h es ds ms qs scan dn mn) (hb : Below w.heap.size w W) (hH : Bx W bh (cellsH h)) (hP : Bx W bp #[.pointer (some ⟨bh, 0, none⟩)]) (hDw : ∀ i, i < w.heap.size → D i) (hDh : D bh) (hDp : D bp)
   (hDo : ∀ i, W.heap.size ≤ i → i < W.heap.size + 3 → D i) :
   Iter Tryz.prog 108 #[.pointer (some ⟨bp, 0, none⟩)] (RepNum w.heap.size) 3 D (spokenL es ds ms qs scan dn mn) W := by
 intro n l J Jx hJ hJx hY h0
 refine callsIn_wide.2 ?_
 have HSAY : Hid (∀ (x : Int × Int) rest b o X, On J Jx (spokenL es ds ms qs scan dn mn) l bh bp h w W (x :: rest) X → w.cell? ⟨b, o, none⟩ = some (.int .i64 x.2) →
     Calls Tryz.prog 109 #[.int .i64 x.1, .pointer (some ⟨b, o, none⟩), .pointer (some ⟨W.heap.size + 1, 0, none⟩), .pointer (some ⟨W.heap.size, 0, none⟩)] X fun e Y => (∃ v, e = .returned v) ∧ On J Jx (spokenL es ds ms qs scan dn mn) l bh bp h w W rest Y) := fun x rest b o X hX hc => by
   obtain ⟨⟨pre, hp, hA⟩, hrd⟩ := hX
   refine (callsIn_wide.1 (say_any J Jx D (spokenL es ds ms qs scan dn mn) W.heap.size l w.heap.size hJ hJx hDo hY pre x b o X ⟨rest, by rw [← hp]; simp⟩ hA (cell_lt hc) (hrd.1 _ _ hc) 3)).mono ?_
   exact fun e Y hs => ⟨hs.1, On.step hrd hs (by rw [← hp]; simp) hDw hDh hDp hb.size hH.2.2 hP.2.2⟩
 have HVER : Hid (∀ (v : Ver) rest b o X, On J Jx (spokenL es ds ms qs scan dn mn) l bh bp h w W (verN v ++ rest) X → w.cell? ⟨b, o, none⟩ = some (.int .i64 v.t) → w.cell? ⟨b, o + 1, none⟩ = some (.int .i64 v.k) →
     Calls Tryz.prog 110 #[.pointer (some ⟨b, o, none⟩), .pointer (some ⟨W.heap.size + 2, 0, none⟩)] X fun e Y => (∃ v, e = .returned v) ∧ On J Jx (spokenL es ds ms qs scan dn mn) l bh bp h w W rest Y) := fun v rest b o X hX hc hc1 => by
   obtain ⟨⟨pre, hp, hA⟩, hrd⟩ := hX
   refine (ver_any J Jx D (spokenL es ds ms qs scan dn mn) W.heap.size l w.heap.size hJ hJx hDo hY pre v b o X ⟨rest, by rw [← hp]; simp⟩ hA (cell_lt hc) (hrd.1 _ _ hc) (hrd.1 _ _ hc1)).mono ?_
   exact fun e Y hs => ⟨hs.1, On.step hrd hs (by rw [← hp]; simp) hDw hDh hDp hb.size hH.2.2 hP.2.2⟩
 have hBa : Below W.heap.size W (((W.alloc (.cells #[.func (.yield l) #[] #[]] 174)).alloc (.cells #[.bool true] 4)).alloc (.cells #[.func (.func 109) #[] #[.pointer (some ⟨W.heap.size + 1, 0, none⟩), .pointer (some ⟨W.heap.size, 0, none⟩)]] 175)) :=
   (((Below.refl _ _).alloc (Nat.le_refl _) _).alloc (by simp) _).alloc (by simp; omega) _
 go_enter Tryz.func108, Tryz.ntmps108
 have hP0 := hP.keep hBa; have hH0 := hH.keep hBa
 have hcp := hP0.1; have hch := hH0.1
 have HON : Hid (On J Jx (spokenL es ds ms qs scan dn mn) l bh bp h w W (spokenL es ds ms qs scan dn mn) (((W.alloc (.cells #[.func (.yield l) #[] #[]] 174)).alloc (.cells #[.bool true] 4)).alloc (.cells #[.func (.func 109) #[] #[.pointer (some ⟨W.heap.size + 1, 0, none⟩), .pointer (some ⟨W.heap.size, 0, none⟩)]] 175))) := by
   refine ⟨⟨[], rfl, ((Bx.new W _ _).alloc _).alloc _, ?_, .inl ⟨?_, hJ _ _ _ h0 (Same.of_below hBa (fun i _ hi => hi))⟩⟩, fun a v hc => ?_, hH0, hP0, Nat.le_trans hb.size hBa.size⟩
   · have := Bx.new ((W.alloc (.cells #[.func (.yield l) #[] #[]] 174)).alloc (.cells #[.bool true] 4)) #[.func (.func 109) #[] #[.pointer (some ⟨W.heap.size + 1, 0, none⟩), .pointer (some ⟨W.heap.size, 0, none⟩)]] 175
     simpa using this
   · have := (Bx.new (W.alloc (.cells #[.func (.yield l) #[] #[]] 174)) #[.bool true] 4).alloc (.cells #[.func (.func 109) #[] #[.pointer (some ⟨W.heap.size + 1, 0, none⟩), .pointer (some ⟨W.heap.size, 0, none⟩)]] 175)
     simpa using this
   · have h1 := (hb.cell (p := a) (cell_lt hc)).trans hc
     exact (hBa.cell (p := a) (cell_lt h1)).trans h1
 go_wp2_with fail
 have HDD := hid hd
 clear hBa hP0 hH0 hcp hch hY h0 hd
 obtain ⟨restM, hrM⟩ : ∃ r, r = qs.flatMap wantN ++ [] := ⟨_, rfl⟩
 obtain ⟨restD, hrD⟩ : ∃ r, r = ms.flatMap (fun x => matN x (mn x)) ++ restM := ⟨_, rfl⟩
 obtain ⟨restE, hrE⟩ : ∃ r, r = ds.flatMap (fun x => ordN x (dn x)) ++ restD := ⟨_, rfl⟩
 have HRE := hid hrE; have HRD := hid hrD; have HRM := hid hrM
 have HJ := hid hJ; have HJX := hid hJx
 clear hrE hrD hrM hJ hJx
 go_loopw [22] (fun i wr => ∃ k : Nat, k ≤ h.e.n ∧ i = .int .i64 k ∧ On J Jx (spokenL es ds ms qs scan dn mn) l bh bp h w W ((es.drop k).flatMap (fun e => evN e (scan e)) ++ restE) wr) (fun i _ => h.e.n - (RowKit.intOf i).toNat)
 case atStart => exact ⟨0, Nat.zero_le _, rfl, by rw [HRE.out, HRD.out, HRM.out]; simpa [spokenL] using HON.out⟩
 case round =>
   obtain ⟨k, hk, rfl, hon⟩ := hrel
   have hx2 := hon.2.2.1; have hx3 := hon.2.2.2.1
   have hcp := hx3.1
   by_cases hlt : k < h.e.n
   · obtain ⟨e, b, o, hx, hab, hc⟩ := HDD.out.1.at_ hlt
     have hce : wr.cell? ⟨bh, 4, none⟩ = some (.slice (some ⟨b, o, none⟩) h.e.n h.e.c) := by rw [hx2.1 4, ← hab]; rfl
     have HC := hid hc; have HX := hid hx; have HN := hid hon
     clear hx2 hx3 hon hc hx hab
     go_wp2_with fail
     have hdrop : es.drop k = e :: es.drop (k + 1) := by
       rw [List.drop_eq_getElem_cons (List.getElem?_eq_some_iff.1 HX.out).1, (List.getElem?_eq_some_iff.1 HX.out).2]
     have HN0 : Hid (On J Jx (spokenL es ds ms qs scan dn mn) l bh bp h w W ((0, e.t) :: ((if e.kind = 1 then [(1, e.ses)] else if e.kind = 2 ∨ e.kind = 3 then (2, e.obj) :: verN e.v else if e.kind = 4 then [(3, e.pred)] else []) ++ ((scan e).flatMap (fun s => (2, s.obj) :: verN s.v) ++ ((es.drop (k + 1)).flatMap (fun e => evN e (scan e)) ++ restE)))) wr) := by
       have := HN.out; rw [hdrop, List.flatMap_cons, show evN e (scan e) = ((0, e.t) :: (if e.kind = 1 then [(1, e.ses)] else if e.kind = 2 ∨ e.kind = 3 then (2, e.obj) :: verN e.v else if e.kind = 4 then [(3, e.pred)] else [])) ++ (scan e).flatMap (fun s => (2, s.obj) :: verN s.v) from rfl] at this; simp only [List.cons_append, List.append_assoc] at this; exact hid this
     have HDR := hid (On.drew HJ.out HJX.out HN0.out)
     have HCALL := hid (HSAY.out (0, e.t) _ b (o + k * 9 + 1) _ HDR.out (HC.out 1 _ rfl))
     refine wp_region_ord [(0, true), (1, true), (2, true), (3, true), (4, false)] (fun W' => Bx W' (W.heap.size + 2) #[.func (.func 109) #[] #[.pointer (some ⟨W.heap.size + 1, 0, none⟩), .pointer (some ⟨W.heap.size, 0, none⟩)]]) (by kernel_rfl) (by kernel_rfl) (by intro d v c a w h; cases d <;> exact h) (HDR.out.fn) ?_
     repeat ((first | refine ord_skip rfl rfl ?_ | (refine ord_q rfl rfl ?_; apply Exists.intro; refine ⟨fun wS hS => ?_, ?_⟩; (go_simp; try with_reducible rfl))); simp only [Act.put, List.setIfInBounds_toArray, List.set_cons_zero, List.set_cons_succ])
     refine ord_l rfl rfl (fun K hK => ?_)
     go_simp
     refine HCALL.out.mono ?_
     rintro e1 Y ⟨⟨r, rfl⟩, hon2⟩
     have HN1 := hid hon2
     refine hK _ _ hon2.fn ?_
     clear hK K hon2 HCALL HDR
     refine ord_nil ?_
     have hk0 : Y.cell? ⟨b, o + k * 9, none⟩ = some (.int .i64 e.kind) := HN1.out.2.1 _ _ (HC.out 0 _ rfl)
     by_cases k1 : e.kind = 1
     · rw [k1] at hk0
       have HN1' := HN1; clear HN1
       have HN1 := hid (show On J Jx (spokenL es ds ms qs scan dn mn) l bh bp h w W ((1, e.ses) :: ((scan e).flatMap (fun s => (2, s.obj) :: verN s.v) ++ ((es.drop (k + 1)).flatMap (fun e => evN e (scan e)) ++ restE))) Y by have := HN1'.out; rw [if_pos k1] at this; exact this)
       clear HN1'
       go_wp2_with fail
       have HDR := hid (On.drew HJ.out HJX.out HN1.out)
       have HCALL := hid (HSAY.out (1, e.ses) _ b (o + k * 9 + 2) _ HDR.out (HC.out 2 _ rfl))
       refine wp_region_ord [(0, true), (1, true), (2, true), (3, true), (4, false)] (fun W' => Bx W' (W.heap.size + 2) #[.func (.func 109) #[] #[.pointer (some ⟨W.heap.size + 1, 0, none⟩), .pointer (some ⟨W.heap.size, 0, none⟩)]]) (by kernel_rfl) (by kernel_rfl) (by intro d v c a w h; cases d <;> exact h) (HDR.out.fn) ?_
       repeat ((first | refine ord_skip rfl rfl ?_ | (refine ord_q rfl rfl ?_; apply Exists.intro; refine ⟨fun wS hS => ?_, ?_⟩; (go_simp; try with_reducible rfl))); simp only [Act.put, List.setIfInBounds_toArray, List.set_cons_zero, List.set_cons_succ])
       refine ord_l rfl rfl (fun K hK => ?_)
       go_simp
       refine HCALL.out.mono ?_
       rintro e1 Y ⟨⟨r, rfl⟩, hon2⟩
       have HN2 := hid hon2
       refine hK _ _ hon2.fn ?_
       clear hK K hon2 HCALL HDR
       refine ord_nil ?_
       have hsl : Y.cell? ⟨b, o + k * 9 + 8, none⟩ = some (.slice e.sa e.sn e.sc) := HN2.out.2.1 _ _ (HC.out 8 _ rfl)
       go_wp2_with fail
       clear hsl
       go_loopw [72] (fun i wr => ∃ j : Nat, j ≤ e.sn ∧ i = .int .i64 j ∧ On J Jx (spokenL es ds ms qs scan dn mn) l bh bp h w W (((scan e).drop j).flatMap (fun s => (2, s.obj) :: verN s.v) ++ ((es.drop (k + 1)).flatMap (fun e => evN e (scan e)) ++ restE)) wr) (fun i _ => e.sn - (RowKit.intOf i).toNat)
       case atStart => exact ⟨0, Nat.zero_le _, rfl, by simpa using HN2.out⟩
       case round =>
         obtain ⟨j, hj, rfl, hon⟩ := hrel
         have HS0 := hid hon; clear hon
         have HER := hid (HDD.out.2.2.2.2.1 e (List.mem_of_getElem? HX.out))
         have hle := HER.out.le
         by_cases hjl : j < e.sn
         · obtain ⟨s2, b2, o2, hx2, hab2, hc2⟩ := HER.out.at_ hjl
           have HC2 := hid hc2; have HX2 := hid hx2; have HAB := hid hab2
           clear hc2 hx2 hab2
           have hdrop2 : (scan e).drop j = s2 :: (scan e).drop (j + 1) := by
             rw [List.drop_eq_getElem_cons (List.getElem?_eq_some_iff.1 HX2.out).1, (List.getElem?_eq_some_iff.1 HX2.out).2]
           have HS1 : Hid (On J Jx (spokenL es ds ms qs scan dn mn) l bh bp h w W ((2, s2.obj) :: (verN s2.v ++ (((scan e).drop (j + 1)).flatMap (fun s => (2, s.obj) :: verN s.v) ++ ((es.drop (k + 1)).flatMap (fun e => evN e (scan e)) ++ restE)))) wr) := by
             have := HS0.out; rw [hdrop2, List.flatMap_cons] at this; simp only [List.cons_append, List.append_assoc] at this; exact hid this
           clear hdrop2
           go_wp2_with fail
           have HDR := hid (On.drew HJ.out HJX.out HS1.out)
           have HCALL := hid (HSAY.out (2, s2.obj) _ b2 (o2 + j * 3) _ HDR.out (HC2.out 0 _ rfl))
           refine wp_region_ord [(0, true), (1, true), (2, true), (3, true), (4, true), (5, true), (6, true), (7, true), (8, false)] (fun W' => Bx W' (W.heap.size + 2) #[.func (.func 109) #[] #[.pointer (some ⟨W.heap.size + 1, 0, none⟩), .pointer (some ⟨W.heap.size, 0, none⟩)]] ∧ W'.cell? ⟨b, o + k * 9 + 8, none⟩ = some (.slice (some ⟨b2, o2, none⟩) e.sn e.sc)) (by kernel_rfl) (by kernel_rfl) (by intro d v c a w h; cases d <;> exact h) (⟨HDR.out.fn, HDR.out.2.1 _ _ (by rw [← HAB.out]; exact HC.out 8 _ rfl)⟩) ?_
           repeat ((first | refine ord_skip rfl rfl ?_ | (refine ord_q rfl rfl ?_; apply Exists.intro; refine ⟨fun wS hS => ?_, ?_⟩; (go_simp; try with_reducible rfl))); simp only [Act.put, List.setIfInBounds_toArray, List.set_cons_zero, List.set_cons_succ])
           refine ord_l rfl rfl (fun K hK => ?_)
           go_simp
           refine HCALL.out.mono ?_
           rintro e1 Y ⟨⟨r, rfl⟩, hon2⟩
           have HS2 := hid hon2
           refine hK _ _ ⟨hon2.fn, hon2.2.1 _ _ (by rw [← HAB.out]; exact HC.out 8 _ rfl)⟩ ?_
           clear hK K hon2 HCALL HDR
           refine ord_nil ?_
           have hsl2 : Y.cell? ⟨b, o + k * 9 + 8, none⟩ = some (.slice (some ⟨b2, o2, none⟩) e.sn e.sc) := HS2.out.2.1 _ _ (by rw [← HAB.out]; exact HC.out 8 _ rfl)
           have HCV := hid (HVER.out s2.v _ b2 (o2 + j * 3 + 1) Y HS2.out (HC2.out 1 _ rfl) (HC2.out 2 _ rfl))
           go_wp2_with fail
           refine HCV.out.mono ?_
           rintro e2 Y2 ⟨⟨r2, rfl⟩, hon3⟩
           have HS3 := hid hon3
           clear hon3 hsl2 HCV
           go_wp2_with fail
           go_roundw
           case rel => exact ⟨j + 1, by omega, by go_num, HS3.out⟩
           case measure => simp [RowKit.intOf]; omega
         · have hjn : j = e.sn := by omega
           have hlen := HER.out.len
           have HSE : Hid (On J Jx (spokenL es ds ms qs scan dn mn) l bh bp h w W ((es.drop (k + 1)).flatMap (fun e => evN e (scan e)) ++ restE) wr) := by
             have := HS0.out; rw [List.drop_eq_nil_of_le (by omega)] at this; exact hid (by simpa using this)
           have hle2 := HDD.out.1.le
           go_wp2_with fail
           go_roundw
           case rel => exact ⟨k + 1, by omega, by go_num, HSE.out⟩
           case measure => simp [RowKit.intOf]; omega
     by_cases k2 : e.kind = 2
     · rw [k2] at hk0
       have HM1 := hid (show On J Jx (spokenL es ds ms qs scan dn mn) l bh bp h w W ((2, e.obj) :: (verN e.v ++ ((scan e).flatMap (fun s => (2, s.obj) :: verN s.v) ++ ((es.drop (k + 1)).flatMap (fun e => evN e (scan e)) ++ restE)))) Y by have := HN1.out; rw [if_neg k1, if_pos (by omega)] at this; simp only [List.cons_append] at this; exact this)
       clear HN1
       go_wp2_with fail
       have HDR := hid (On.drew HJ.out HJX.out HM1.out)
       have HCALL := hid (HSAY.out (2, e.obj) _ b (o + k * 9 + 4) _ HDR.out (HC.out 4 _ rfl))
       refine wp_region_ord [(0, true), (1, true), (2, true), (3, true), (4, false)] (fun W' => Bx W' (W.heap.size + 2) #[.func (.func 109) #[] #[.pointer (some ⟨W.heap.size + 1, 0, none⟩), .pointer (some ⟨W.heap.size, 0, none⟩)]]) (by kernel_rfl) (by kernel_rfl) (by intro d v c a w h; cases d <;> exact h) (HDR.out.fn) ?_
       repeat ((first | refine ord_skip rfl rfl ?_ | (refine ord_q rfl rfl ?_; apply Exists.intro; refine ⟨fun wS hS => ?_, ?_⟩; (go_simp; try with_reducible rfl))); simp only [Act.put, List.setIfInBounds_toArray, List.set_cons_zero, List.set_cons_succ])
       refine ord_l rfl rfl (fun K hK => ?_)
       go_simp
       refine HCALL.out.mono ?_
       rintro e1 Y ⟨⟨r, rfl⟩, hon2⟩
       have HM2 := hid hon2
       refine hK _ _ hon2.fn ?_
       clear hK K hon2 HCALL HDR
       refine ord_nil ?_
       have HCV := hid (HVER.out e.v _ b (o + k * 9 + 5) Y HM2.out (HC.out 5 _ rfl) (HC.out 6 _ rfl))
       go_wp2_with fail
       refine HCV.out.mono ?_
       rintro e2 Y2 ⟨⟨r2, rfl⟩, hon3⟩
       obtain ⟨Y, rfl⟩ : ∃ Y, Y = Y2 := ⟨_, rfl⟩
       have HN2 := hid hon3
       clear hon3 HCV
       have hsl : Y.cell? ⟨b, o + k * 9 + 8, none⟩ = some (.slice e.sa e.sn e.sc) := HN2.out.2.1 _ _ (HC.out 8 _ rfl)
       go_wp2_with fail
       clear hsl
       go_loopw [72] (fun i wr => ∃ j : Nat, j ≤ e.sn ∧ i = .int .i64 j ∧ On J Jx (spokenL es ds ms qs scan dn mn) l bh bp h w W (((scan e).drop j).flatMap (fun s => (2, s.obj) :: verN s.v) ++ ((es.drop (k + 1)).flatMap (fun e => evN e (scan e)) ++ restE)) wr) (fun i _ => e.sn - (RowKit.intOf i).toNat)
       case atStart => exact ⟨0, Nat.zero_le _, rfl, by simpa using HN2.out⟩
       case round =>
         obtain ⟨j, hj, rfl, hon⟩ := hrel
         have HS0 := hid hon; clear hon
         have HER := hid (HDD.out.2.2.2.2.1 e (List.mem_of_getElem? HX.out))
         have hle := HER.out.le
         by_cases hjl : j < e.sn
         · obtain ⟨s2, b2, o2, hx2, hab2, hc2⟩ := HER.out.at_ hjl
           have HC2 := hid hc2; have HX2 := hid hx2; have HAB := hid hab2
           clear hc2 hx2 hab2
           have hdrop2 : (scan e).drop j = s2 :: (scan e).drop (j + 1) := by
             rw [List.drop_eq_getElem_cons (List.getElem?_eq_some_iff.1 HX2.out).1, (List.getElem?_eq_some_iff.1 HX2.out).2]
           have HS1 : Hid (On J Jx (spokenL es ds ms qs scan dn mn) l bh bp h w W ((2, s2.obj) :: (verN s2.v ++ (((scan e).drop (j + 1)).flatMap (fun s => (2, s.obj) :: verN s.v) ++ ((es.drop (k + 1)).flatMap (fun e => evN e (scan e)) ++ restE)))) wr) := by
             have := HS0.out; rw [hdrop2, List.flatMap_cons] at this; simp only [List.cons_append, List.append_assoc] at this; exact hid this
           clear hdrop2
           go_wp2_with fail
           have HDR := hid (On.drew HJ.out HJX.out HS1.out)
           have HCALL := hid (HSAY.out (2, s2.obj) _ b2 (o2 + j * 3) _ HDR.out (HC2.out 0 _ rfl))
           refine wp_region_ord [(0, true), (1, true), (2, true), (3, true), (4, true), (5, true), (6, true), (7, true), (8, false)] (fun W' => Bx W' (W.heap.size + 2) #[.func (.func 109) #[] #[.pointer (some ⟨W.heap.size + 1, 0, none⟩), .pointer (some ⟨W.heap.size, 0, none⟩)]] ∧ W'.cell? ⟨b, o + k * 9 + 8, none⟩ = some (.slice (some ⟨b2, o2, none⟩) e.sn e.sc)) (by kernel_rfl) (by kernel_rfl) (by intro d v c a w h; cases d <;> exact h) (⟨HDR.out.fn, HDR.out.2.1 _ _ (by rw [← HAB.out]; exact HC.out 8 _ rfl)⟩) ?_
           repeat ((first | refine ord_skip rfl rfl ?_ | (refine ord_q rfl rfl ?_; apply Exists.intro; refine ⟨fun wS hS => ?_, ?_⟩; (go_simp; try with_reducible rfl))); simp only [Act.put, List.setIfInBounds_toArray, List.set_cons_zero, List.set_cons_succ])
           refine ord_l rfl rfl (fun K hK => ?_)
           go_simp
           refine HCALL.out.mono ?_
           rintro e1 Y ⟨⟨r, rfl⟩, hon2⟩
           have HS2 := hid hon2
           refine hK _ _ ⟨hon2.fn, hon2.2.1 _ _ (by rw [← HAB.out]; exact HC.out 8 _ rfl)⟩ ?_
           clear hK K hon2 HCALL HDR
           refine ord_nil ?_
           have hsl2 : Y.cell? ⟨b, o + k * 9 + 8, none⟩ = some (.slice (some ⟨b2, o2, none⟩) e.sn e.sc) := HS2.out.2.1 _ _ (by rw [← HAB.out]; exact HC.out 8 _ rfl)
           have HCV := hid (HVER.out s2.v _ b2 (o2 + j * 3 + 1) Y HS2.out (HC2.out 1 _ rfl) (HC2.out 2 _ rfl))
           go_wp2_with fail
           refine HCV.out.mono ?_
           rintro e2 Y2 ⟨⟨r2, rfl⟩, hon3⟩
           have HS3 := hid hon3
           clear hon3 hsl2 HCV
           go_wp2_with fail
           go_roundw
           case rel => exact ⟨j + 1, by omega, by go_num, HS3.out⟩
           case measure => simp [RowKit.intOf]; omega
         · have hjn : j = e.sn := by omega
           have hlen := HER.out.len
           have HSE : Hid (On J Jx (spokenL es ds ms qs scan dn mn) l bh bp h w W ((es.drop (k + 1)).flatMap (fun e => evN e (scan e)) ++ restE) wr) := by
             have := HS0.out; rw [List.drop_eq_nil_of_le (by omega)] at this; exact hid (by simpa using this)
           have hle2 := HDD.out.1.le
           go_wp2_with fail
           go_roundw
           case rel => exact ⟨k + 1, by omega, by go_num, HSE.out⟩
           case measure => simp [RowKit.intOf]; omega
     by_cases k3 : e.kind = 3
     · rw [k3] at hk0
       have HM1 := hid (show On J Jx (spokenL es ds ms qs scan dn mn) l bh bp h w W ((2, e.obj) :: (verN e.v ++ ((scan e).flatMap (fun s => (2, s.obj) :: verN s.v) ++ ((es.drop (k + 1)).flatMap (fun e => evN e (scan e)) ++ restE)))) Y by have := HN1.out; rw [if_neg k1, if_pos (by omega)] at this; simp only [List.cons_append] at this; exact this)
       clear HN1
       go_wp2_with fail
       have HDR := hid (On.drew HJ.out HJX.out HM1.out)
       have HCALL := hid (HSAY.out (2, e.obj) _ b (o + k * 9 + 4) _ HDR.out (HC.out 4 _ rfl))
       refine wp_region_ord [(0, true), (1, true), (2, true), (3, true), (4, false)] (fun W' => Bx W' (W.heap.size + 2) #[.func (.func 109) #[] #[.pointer (some ⟨W.heap.size + 1, 0, none⟩), .pointer (some ⟨W.heap.size, 0, none⟩)]]) (by kernel_rfl) (by kernel_rfl) (by intro d v c a w h; cases d <;> exact h) (HDR.out.fn) ?_
       repeat ((first | refine ord_skip rfl rfl ?_ | (refine ord_q rfl rfl ?_; apply Exists.intro; refine ⟨fun wS hS => ?_, ?_⟩; (go_simp; try with_reducible rfl))); simp only [Act.put, List.setIfInBounds_toArray, List.set_cons_zero, List.set_cons_succ])
       refine ord_l rfl rfl (fun K hK => ?_)
       go_simp
       refine HCALL.out.mono ?_
       rintro e1 Y ⟨⟨r, rfl⟩, hon2⟩
       have HM2 := hid hon2
       refine hK _ _ hon2.fn ?_
       clear hK K hon2 HCALL HDR
       refine ord_nil ?_
       have HCV := hid (HVER.out e.v _ b (o + k * 9 + 5) Y HM2.out (HC.out 5 _ rfl) (HC.out 6 _ rfl))
       go_wp2_with fail
       refine HCV.out.mono ?_
       rintro e2 Y2 ⟨⟨r2, rfl⟩, hon3⟩
       obtain ⟨Y, rfl⟩ : ∃ Y, Y = Y2 := ⟨_, rfl⟩
       have HN2 := hid hon3
       clear hon3 HCV
       have hsl : Y.cell? ⟨b, o + k * 9 + 8, none⟩ = some (.slice e.sa e.sn e.sc) := HN2.out.2.1 _ _ (HC.out 8 _ rfl)
       go_wp2_with fail
       clear hsl
       go_loopw [72] (fun i wr => ∃ j : Nat, j ≤ e.sn ∧ i = .int .i64 j ∧ On J Jx (spokenL es ds ms qs scan dn mn) l bh bp h w W (((scan e).drop j).flatMap (fun s => (2, s.obj) :: verN s.v) ++ ((es.drop (k + 1)).flatMap (fun e => evN e (scan e)) ++ restE)) wr) (fun i _ => e.sn - (RowKit.intOf i).toNat)
       case atStart => exact ⟨0, Nat.zero_le _, rfl, by simpa using HN2.out⟩
       case round =>
         obtain ⟨j, hj, rfl, hon⟩ := hrel
         have HS0 := hid hon; clear hon
         have HER := hid (HDD.out.2.2.2.2.1 e (List.mem_of_getElem? HX.out))
         have hle := HER.out.le
         by_cases hjl : j < e.sn
         · obtain ⟨s2, b2, o2, hx2, hab2, hc2⟩ := HER.out.at_ hjl
           have HC2 := hid hc2; have HX2 := hid hx2; have HAB := hid hab2
           clear hc2 hx2 hab2
           have hdrop2 : (scan e).drop j = s2 :: (scan e).drop (j + 1) := by
             rw [List.drop_eq_getElem_cons (List.getElem?_eq_some_iff.1 HX2.out).1, (List.getElem?_eq_some_iff.1 HX2.out).2]
           have HS1 : Hid (On J Jx (spokenL es ds ms qs scan dn mn) l bh bp h w W ((2, s2.obj) :: (verN s2.v ++ (((scan e).drop (j + 1)).flatMap (fun s => (2, s.obj) :: verN s.v) ++ ((es.drop (k + 1)).flatMap (fun e => evN e (scan e)) ++ restE)))) wr) := by
             have := HS0.out; rw [hdrop2, List.flatMap_cons] at this; simp only [List.cons_append, List.append_assoc] at this; exact hid this
           clear hdrop2
           go_wp2_with fail
           have HDR := hid (On.drew HJ.out HJX.out HS1.out)
           have HCALL := hid (HSAY.out (2, s2.obj) _ b2 (o2 + j * 3) _ HDR.out (HC2.out 0 _ rfl))
           refine wp_region_ord [(0, true), (1, true), (2, true), (3, true), (4, true), (5, true), (6, true), (7, true), (8, false)] (fun W' => Bx W' (W.heap.size + 2) #[.func (.func 109) #[] #[.pointer (some ⟨W.heap.size + 1, 0, none⟩), .pointer (some ⟨W.heap.size, 0, none⟩)]] ∧ W'.cell? ⟨b, o + k * 9 + 8, none⟩ = some (.slice (some ⟨b2, o2, none⟩) e.sn e.sc)) (by kernel_rfl) (by kernel_rfl) (by intro d v c a w h; cases d <;> exact h) (⟨HDR.out.fn, HDR.out.2.1 _ _ (by rw [← HAB.out]; exact HC.out 8 _ rfl)⟩) ?_
           repeat ((first | refine ord_skip rfl rfl ?_ | (refine ord_q rfl rfl ?_; apply Exists.intro; refine ⟨fun wS hS => ?_, ?_⟩; (go_simp; try with_reducible rfl))); simp only [Act.put, List.setIfInBounds_toArray, List.set_cons_zero, List.set_cons_succ])
           refine ord_l rfl rfl (fun K hK => ?_)
           go_simp
           refine HCALL.out.mono ?_
           rintro e1 Y ⟨⟨r, rfl⟩, hon2⟩
           have HS2 := hid hon2
           refine hK _ _ ⟨hon2.fn, hon2.2.1 _ _ (by rw [← HAB.out]; exact HC.out 8 _ rfl)⟩ ?_
           clear hK K hon2 HCALL HDR
           refine ord_nil ?_
           have hsl2 : Y.cell? ⟨b, o + k * 9 + 8, none⟩ = some (.slice (some ⟨b2, o2, none⟩) e.sn e.sc) := HS2.out.2.1 _ _ (by rw [← HAB.out]; exact HC.out 8 _ rfl)
           have HCV := hid (HVER.out s2.v _ b2 (o2 + j * 3 + 1) Y HS2.out (HC2.out 1 _ rfl) (HC2.out 2 _ rfl))
           go_wp2_with fail
           refine HCV.out.mono ?_
           rintro e2 Y2 ⟨⟨r2, rfl⟩, hon3⟩
           have HS3 := hid hon3
           clear hon3 hsl2 HCV
           go_wp2_with fail
           go_roundw
           case rel => exact ⟨j + 1, by omega, by go_num, HS3.out⟩
           case measure => simp [RowKit.intOf]; omega
         · have hjn : j = e.sn := by omega
           have hlen := HER.out.len
           have HSE : Hid (On J Jx (spokenL es ds ms qs scan dn mn) l bh bp h w W ((es.drop (k + 1)).flatMap (fun e => evN e (scan e)) ++ restE) wr) := by
             have := HS0.out; rw [List.drop_eq_nil_of_le (by omega)] at this; exact hid (by simpa using this)
           have hle2 := HDD.out.1.le
           go_wp2_with fail
           go_roundw
           case rel => exact ⟨k + 1, by omega, by go_num, HSE.out⟩
           case measure => simp [RowKit.intOf]; omega
     by_cases k4 : e.kind = 4
     · rw [k4] at hk0
       have HM1 := hid (show On J Jx (spokenL es ds ms qs scan dn mn) l bh bp h w W ((3, e.pred) :: ((scan e).flatMap (fun s => (2, s.obj) :: verN s.v) ++ ((es.drop (k + 1)).flatMap (fun e => evN e (scan e)) ++ restE))) Y by have := HN1.out; rw [if_neg k1, if_neg (by omega), if_pos k4] at this; exact this)
       clear HN1
       go_wp2_with fail
       have HDR := hid (On.drew HJ.out HJX.out HM1.out)
       have HCALL := hid (HSAY.out (3, e.pred) _ b (o + k * 9 + 7) _ HDR.out (HC.out 7 _ rfl))
       refine wp_region_ord [(0, true), (1, true), (2, true), (3, true), (4, false)] (fun W' => Bx W' (W.heap.size + 2) #[.func (.func 109) #[] #[.pointer (some ⟨W.heap.size + 1, 0, none⟩), .pointer (some ⟨W.heap.size, 0, none⟩)]]) (by kernel_rfl) (by kernel_rfl) (by intro d v c a w h; cases d <;> exact h) (HDR.out.fn) ?_
       repeat ((first | refine ord_skip rfl rfl ?_ | (refine ord_q rfl rfl ?_; apply Exists.intro; refine ⟨fun wS hS => ?_, ?_⟩; (go_simp; try with_reducible rfl))); simp only [Act.put, List.setIfInBounds_toArray, List.set_cons_zero, List.set_cons_succ])
       refine ord_l rfl rfl (fun K hK => ?_)
       go_simp
       refine HCALL.out.mono ?_
       rintro e1 Y ⟨⟨r, rfl⟩, hon2⟩
       have HN2 := hid hon2
       refine hK _ _ hon2.fn ?_
       clear hK K hon2 HCALL HDR
       refine ord_nil ?_
       have hsl : Y.cell? ⟨b, o + k * 9 + 8, none⟩ = some (.slice e.sa e.sn e.sc) := HN2.out.2.1 _ _ (HC.out 8 _ rfl)
       go_wp2_with fail
       clear hsl
       go_loopw [72] (fun i wr => ∃ j : Nat, j ≤ e.sn ∧ i = .int .i64 j ∧ On J Jx (spokenL es ds ms qs scan dn mn) l bh bp h w W (((scan e).drop j).flatMap (fun s => (2, s.obj) :: verN s.v) ++ ((es.drop (k + 1)).flatMap (fun e => evN e (scan e)) ++ restE)) wr) (fun i _ => e.sn - (RowKit.intOf i).toNat)
       case atStart => exact ⟨0, Nat.zero_le _, rfl, by simpa using HN2.out⟩
       case round =>
         obtain ⟨j, hj, rfl, hon⟩ := hrel
         have HS0 := hid hon; clear hon
         have HER := hid (HDD.out.2.2.2.2.1 e (List.mem_of_getElem? HX.out))
         have hle := HER.out.le
         by_cases hjl : j < e.sn
         · obtain ⟨s2, b2, o2, hx2, hab2, hc2⟩ := HER.out.at_ hjl
           have HC2 := hid hc2; have HX2 := hid hx2; have HAB := hid hab2
           clear hc2 hx2 hab2
           have hdrop2 : (scan e).drop j = s2 :: (scan e).drop (j + 1) := by
             rw [List.drop_eq_getElem_cons (List.getElem?_eq_some_iff.1 HX2.out).1, (List.getElem?_eq_some_iff.1 HX2.out).2]
           have HS1 : Hid (On J Jx (spokenL es ds ms qs scan dn mn) l bh bp h w W ((2, s2.obj) :: (verN s2.v ++ (((scan e).drop (j + 1)).flatMap (fun s => (2, s.obj) :: verN s.v) ++ ((es.drop (k + 1)).flatMap (fun e => evN e (scan e)) ++ restE)))) wr) := by
             have := HS0.out; rw [hdrop2, List.flatMap_cons] at this; simp only [List.cons_append, List.append_assoc] at this; exact hid this
           clear hdrop2
           go_wp2_with fail
           have HDR := hid (On.drew HJ.out HJX.out HS1.out)
           have HCALL := hid (HSAY.out (2, s2.obj) _ b2 (o2 + j * 3) _ HDR.out (HC2.out 0 _ rfl))
           refine wp_region_ord [(0, true), (1, true), (2, true), (3, true), (4, true), (5, true), (6, true), (7, true), (8, false)] (fun W' => Bx W' (W.heap.size + 2) #[.func (.func 109) #[] #[.pointer (some ⟨W.heap.size + 1, 0, none⟩), .pointer (some ⟨W.heap.size, 0, none⟩)]] ∧ W'.cell? ⟨b, o + k * 9 + 8, none⟩ = some (.slice (some ⟨b2, o2, none⟩) e.sn e.sc)) (by kernel_rfl) (by kernel_rfl) (by intro d v c a w h; cases d <;> exact h) (⟨HDR.out.fn, HDR.out.2.1 _ _ (by rw [← HAB.out]; exact HC.out 8 _ rfl)⟩) ?_
           repeat ((first | refine ord_skip rfl rfl ?_ | (refine ord_q rfl rfl ?_; apply Exists.intro; refine ⟨fun wS hS => ?_, ?_⟩; (go_simp; try with_reducible rfl))); simp only [Act.put, List.setIfInBounds_toArray, List.set_cons_zero, List.set_cons_succ])
           refine ord_l rfl rfl (fun K hK => ?_)
           go_simp
           refine HCALL.out.mono ?_
           rintro e1 Y ⟨⟨r, rfl⟩, hon2⟩
           have HS2 := hid hon2
           refine hK _ _ ⟨hon2.fn, hon2.2.1 _ _ (by rw [← HAB.out]; exact HC.out 8 _ rfl)⟩ ?_
           clear hK K hon2 HCALL HDR
           refine ord_nil ?_
           have hsl2 : Y.cell? ⟨b, o + k * 9 + 8, none⟩ = some (.slice (some ⟨b2, o2, none⟩) e.sn e.sc) := HS2.out.2.1 _ _ (by rw [← HAB.out]; exact HC.out 8 _ rfl)
           have HCV := hid (HVER.out s2.v _ b2 (o2 + j * 3 + 1) Y HS2.out (HC2.out 1 _ rfl) (HC2.out 2 _ rfl))
           go_wp2_with fail
           refine HCV.out.mono ?_
           rintro e2 Y2 ⟨⟨r2, rfl⟩, hon3⟩
           have HS3 := hid hon3
           clear hon3 hsl2 HCV
           go_wp2_with fail
           go_roundw
           case rel => exact ⟨j + 1, by omega, by go_num, HS3.out⟩
           case measure => simp [RowKit.intOf]; omega
         · have hjn : j = e.sn := by omega
           have hlen := HER.out.len
           have HSE : Hid (On J Jx (spokenL es ds ms qs scan dn mn) l bh bp h w W ((es.drop (k + 1)).flatMap (fun e => evN e (scan e)) ++ restE) wr) := by
             have := HS0.out; rw [List.drop_eq_nil_of_le (by omega)] at this; exact hid (by simpa using this)
           have hle2 := HDD.out.1.le
           go_wp2_with fail
           go_roundw
           case rel => exact ⟨k + 1, by omega, by go_num, HSE.out⟩
           case measure => simp [RowKit.intOf]; omega
     · have HN2 := hid (show On J Jx (spokenL es ds ms qs scan dn mn) l bh bp h w W ((scan e).flatMap (fun s => (2, s.obj) :: verN s.v) ++ ((es.drop (k + 1)).flatMap (fun e => evN e (scan e)) ++ restE)) Y by have := HN1.out; rw [if_neg k1, if_neg (by omega), if_neg k4] at this; exact this)
       clear HN1
       have n1 : (e.kind == 1) = false := beq_eq_false_iff_ne.2 k1
       have n2 : (e.kind == 2) = false := beq_eq_false_iff_ne.2 k2
       have n3 : (e.kind == 3) = false := beq_eq_false_iff_ne.2 k3
       have n4 : (e.kind == 4) = false := beq_eq_false_iff_ne.2 k4
       have hsl : Y.cell? ⟨b, o + k * 9 + 8, none⟩ = some (.slice e.sa e.sn e.sc) := HN2.out.2.1 _ _ (HC.out 8 _ rfl)
       go_wp2_with fail
       clear hsl
       go_loopw [72] (fun i wr => ∃ j : Nat, j ≤ e.sn ∧ i = .int .i64 j ∧ On J Jx (spokenL es ds ms qs scan dn mn) l bh bp h w W (((scan e).drop j).flatMap (fun s => (2, s.obj) :: verN s.v) ++ ((es.drop (k + 1)).flatMap (fun e => evN e (scan e)) ++ restE)) wr) (fun i _ => e.sn - (RowKit.intOf i).toNat)
       case atStart => exact ⟨0, Nat.zero_le _, rfl, by simpa using HN2.out⟩
       case round =>
         obtain ⟨j, hj, rfl, hon⟩ := hrel
         have HS0 := hid hon; clear hon
         have HER := hid (HDD.out.2.2.2.2.1 e (List.mem_of_getElem? HX.out))
         have hle := HER.out.le
         by_cases hjl : j < e.sn
         · obtain ⟨s2, b2, o2, hx2, hab2, hc2⟩ := HER.out.at_ hjl
           have HC2 := hid hc2; have HX2 := hid hx2; have HAB := hid hab2
           clear hc2 hx2 hab2
           have hdrop2 : (scan e).drop j = s2 :: (scan e).drop (j + 1) := by
             rw [List.drop_eq_getElem_cons (List.getElem?_eq_some_iff.1 HX2.out).1, (List.getElem?_eq_some_iff.1 HX2.out).2]
           have HS1 : Hid (On J Jx (spokenL es ds ms qs scan dn mn) l bh bp h w W ((2, s2.obj) :: (verN s2.v ++ (((scan e).drop (j + 1)).flatMap (fun s => (2, s.obj) :: verN s.v) ++ ((es.drop (k + 1)).flatMap (fun e => evN e (scan e)) ++ restE)))) wr) := by
             have := HS0.out; rw [hdrop2, List.flatMap_cons] at this; simp only [List.cons_append, List.append_assoc] at this; exact hid this
           clear hdrop2
           go_wp2_with fail
           have HDR := hid (On.drew HJ.out HJX.out HS1.out)
           have HCALL := hid (HSAY.out (2, s2.obj) _ b2 (o2 + j * 3) _ HDR.out (HC2.out 0 _ rfl))
           refine wp_region_ord [(0, true), (1, true), (2, true), (3, true), (4, true), (5, true), (6, true), (7, true), (8, false)] (fun W' => Bx W' (W.heap.size + 2) #[.func (.func 109) #[] #[.pointer (some ⟨W.heap.size + 1, 0, none⟩), .pointer (some ⟨W.heap.size, 0, none⟩)]] ∧ W'.cell? ⟨b, o + k * 9 + 8, none⟩ = some (.slice (some ⟨b2, o2, none⟩) e.sn e.sc)) (by kernel_rfl) (by kernel_rfl) (by intro d v c a w h; cases d <;> exact h) (⟨HDR.out.fn, HDR.out.2.1 _ _ (by rw [← HAB.out]; exact HC.out 8 _ rfl)⟩) ?_
           repeat ((first | refine ord_skip rfl rfl ?_ | (refine ord_q rfl rfl ?_; apply Exists.intro; refine ⟨fun wS hS => ?_, ?_⟩; (go_simp; try with_reducible rfl))); simp only [Act.put, List.setIfInBounds_toArray, List.set_cons_zero, List.set_cons_succ])
           refine ord_l rfl rfl (fun K hK => ?_)
           go_simp
           refine HCALL.out.mono ?_
           rintro e1 Y ⟨⟨r, rfl⟩, hon2⟩
           have HS2 := hid hon2
           refine hK _ _ ⟨hon2.fn, hon2.2.1 _ _ (by rw [← HAB.out]; exact HC.out 8 _ rfl)⟩ ?_
           clear hK K hon2 HCALL HDR
           refine ord_nil ?_
           have hsl2 : Y.cell? ⟨b, o + k * 9 + 8, none⟩ = some (.slice (some ⟨b2, o2, none⟩) e.sn e.sc) := HS2.out.2.1 _ _ (by rw [← HAB.out]; exact HC.out 8 _ rfl)
           have HCV := hid (HVER.out s2.v _ b2 (o2 + j * 3 + 1) Y HS2.out (HC2.out 1 _ rfl) (HC2.out 2 _ rfl))
           go_wp2_with fail
           refine HCV.out.mono ?_
           rintro e2 Y2 ⟨⟨r2, rfl⟩, hon3⟩
           have HS3 := hid hon3
           clear hon3 hsl2 HCV
           go_wp2_with fail
           go_roundw
           case rel => exact ⟨j + 1, by omega, by go_num, HS3.out⟩
           case measure => simp [RowKit.intOf]; omega
         · have hjn : j = e.sn := by omega
           have hlen := HER.out.len
           have HSE : Hid (On J Jx (spokenL es ds ms qs scan dn mn) l bh bp h w W ((es.drop (k + 1)).flatMap (fun e => evN e (scan e)) ++ restE) wr) := by
             have := HS0.out; rw [List.drop_eq_nil_of_le (by omega)] at this; exact hid (by simpa using this)
           have hle2 := HDD.out.1.le
           go_wp2_with fail
           go_roundw
           case rel => exact ⟨k + 1, by omega, by go_num, HSE.out⟩
           case measure => simp [RowKit.intOf]; omega
   · have hlen0 := (HDD.out.1).len
     have HOE : Hid (On J Jx (spokenL es ds ms qs scan dn mn) l bh bp h w W restE wr) := by
       have := hon; rw [List.drop_eq_nil_of_le (by omega)] at this; exact hid (by simpa using this)
     have hcp : wr.cell? ⟨bp, 0, none⟩ = some (.pointer (some ⟨bh, 0, none⟩)) := HOE.out.2.2.2.1.1 0
     have hch : wr.cell? ⟨bh, 5, none⟩ = some (h.d.v) := HOE.out.2.2.1.1 5
     clear hx2 hx3 hon
     go_wp2_with fail
     clear hcp hch
     rw [HRE.out] at HOE
     go_loopw [100] (fun i wr => ∃ k : Nat, k ≤ h.d.n ∧ i = .int .i64 k ∧ On J Jx (spokenL es ds ms qs scan dn mn) l bh bp h w W ((ds.drop k).flatMap (fun x => ordN x (dn x)) ++ restD) wr) (fun i _ => h.d.n - (RowKit.intOf i).toNat)
     case atStart => exact ⟨0, Nat.zero_le _, rfl, by simpa using HOE.out⟩
     case round =>
       obtain ⟨k, hk, rfl, hon⟩ := hrel
       have HN := hid hon; clear hon
       have hle0 := (HDD.out.2.1).le
       by_cases hlt : k < h.d.n
       · obtain ⟨x, b, o, hx, hab, hc⟩ := (HDD.out.2.1).at_ hlt
         have HC := hid hc; have HX := hid hx; have HAB := hid hab
         clear hx hab hc
         have hdrop : ds.drop k = x :: ds.drop (k + 1) := by
           rw [List.drop_eq_getElem_cons (List.getElem?_eq_some_iff.1 HX.out).1, (List.getElem?_eq_some_iff.1 HX.out).2]
         have hcp : wr.cell? ⟨bp, 0, none⟩ = some (.pointer (some ⟨bh, 0, none⟩)) := HN.out.2.2.2.1.1 0
         have hch : wr.cell? ⟨bh, 5, none⟩ = some (.slice (some ⟨b, o, none⟩) h.d.n h.d.c) := (HN.out.2.2.1.1 5).trans (by rw [← HAB.out]; rfl)
         have HN0 : Hid (On J Jx (spokenL es ds ms qs scan dn mn) l bh bp h w W ((2, x.obj) :: ((dn x).map (fun d => (0, d)) ++ ((ds.drop (k + 1)).flatMap (fun x => ordN x (dn x)) ++ restD))) wr) := by
           have := HN.out; rw [hdrop, List.flatMap_cons] at this; simp only [ordN, List.cons_append, List.append_assoc] at this; exact hid this
         clear hdrop
         go_wp2_with fail
         clear hcp hch
         have HDR := hid (On.drew HJ.out HJX.out HN0.out)
         have HCALL := hid (HSAY.out (2, x.obj) _ b (o + k * 2) _ HDR.out (HC.out 0 _ rfl))
         refine wp_region_ord [(0, true), (1, true), (2, true), (3, true), (4, true), (5, true), (6, true), (7, true), (8, false)] (fun W' => Bx W' (W.heap.size + 2) #[.func (.func 109) #[] #[.pointer (some ⟨W.heap.size + 1, 0, none⟩), .pointer (some ⟨W.heap.size, 0, none⟩)]] ∧ W'.cell? ⟨bp, 0, none⟩ = some (.pointer (some ⟨bh, 0, none⟩)) ∧ W'.cell? ⟨bh, 5, none⟩ = some (.slice (some ⟨b, o, none⟩) h.d.n h.d.c)) (by kernel_rfl) (by kernel_rfl) (by intro d v c a w h; cases d <;> exact h) (⟨HDR.out.fn, (HDR.out.2.2.2.1.1 0), ((HDR.out.2.2.1.1 5).trans (by rw [← HAB.out]; rfl))⟩) ?_
         repeat ((first | refine ord_skip rfl rfl ?_ | (refine ord_q rfl rfl ?_; apply Exists.intro; refine ⟨fun wS hS => ?_, ?_⟩; (go_simp; try with_reducible rfl))); simp only [Act.put, List.setIfInBounds_toArray, List.set_cons_zero, List.set_cons_succ])
         refine ord_l rfl rfl (fun K hK => ?_)
         go_simp
         refine HCALL.out.mono ?_
         rintro e1 Y ⟨⟨r, rfl⟩, hon2⟩
         have HN1 := hid hon2
         refine hK _ _ ⟨hon2.fn, (hon2.2.2.2.1.1 0), ((hon2.2.2.1.1 5).trans (by rw [← HAB.out]; rfl))⟩ ?_
         clear hK K hon2 HCALL HDR
         refine ord_nil ?_
         have hcp : Y.cell? ⟨bp, 0, none⟩ = some (.pointer (some ⟨bh, 0, none⟩)) := HN1.out.2.2.2.1.1 0
         have hch : Y.cell? ⟨bh, 5, none⟩ = some (.slice (some ⟨b, o, none⟩) h.d.n h.d.c) := (HN1.out.2.2.1.1 5).trans (by rw [← HAB.out]; rfl)
         have hsl : Y.cell? ⟨b, o + k * 2 + 1, none⟩ = some (.slice x.sa x.sn x.sc) := HN1.out.2.1 _ _ (HC.out 1 _ rfl)
         go_wp2_with fail
         clear hcp hch hsl
         go_loopw [121] (fun i wr => ∃ j : Nat, j ≤ x.sn ∧ i = .int .i64 j ∧ On J Jx (spokenL es ds ms qs scan dn mn) l bh bp h w W (((dn x).drop j).map (fun d => (0, d)) ++ ((ds.drop (k + 1)).flatMap (fun x => ordN x (dn x)) ++ restD)) wr) (fun i _ => x.sn - (RowKit.intOf i).toNat)
         case atStart => exact ⟨0, Nat.zero_le _, rfl, by simpa using HN1.out⟩
         case round =>
           obtain ⟨j, hj, rfl, hon⟩ := hrel
           have HS0 := hid hon; clear hon
           have HER := hid (HDD.out.2.2.2.2.2.1 x (List.mem_of_getElem? HX.out))
           have hle1 := HER.out.le
           by_cases hjl : j < x.sn
           · obtain ⟨d, b2, o2, hx2, hab2, hc2⟩ := HER.out.at_ hjl
             have HC2 := hid hc2; have HX2 := hid hx2; have HAB2 := hid hab2
             clear hc2 hx2 hab2
             have hdrop2 : (dn x).drop j = d :: (dn x).drop (j + 1) := by
               rw [List.drop_eq_getElem_cons (List.getElem?_eq_some_iff.1 HX2.out).1, (List.getElem?_eq_some_iff.1 HX2.out).2]
             have HS1 : Hid (On J Jx (spokenL es ds ms qs scan dn mn) l bh bp h w W ((0, d) :: (((dn x).drop (j + 1)).map (fun d => (0, d)) ++ ((ds.drop (k + 1)).flatMap (fun x => ordN x (dn x)) ++ restD))) wr) := by
               have := HS0.out; rw [hdrop2, List.map_cons] at this; exact hid (by simpa using this)
             clear hdrop2
             go_wp2_with fail
             have HDR := hid (On.drew HJ.out HJX.out HS1.out)
             have HCALL := hid (HSAY.out (0, d) _ b2 (o2 + j) _ HDR.out (by have := HC2.out 0 _ rfl; simpa using this))
             refine wp_region_ord [(0, true), (1, true), (2, true), (3, true), (4, true), (5, true), (6, true), (7, true), (8, true), (9, true), (10, true), (11, false)] (fun W' => Bx W' (W.heap.size + 2) #[.func (.func 109) #[] #[.pointer (some ⟨W.heap.size + 1, 0, none⟩), .pointer (some ⟨W.heap.size, 0, none⟩)]] ∧ W'.cell? ⟨b, o + k * 2 + 1, none⟩ = some (.slice (some ⟨b2, o2, none⟩) x.sn x.sc) ∧ W'.cell? ⟨bp, 0, none⟩ = some (.pointer (some ⟨bh, 0, none⟩)) ∧ W'.cell? ⟨bh, 5, none⟩ = some (.slice (some ⟨b, o, none⟩) h.d.n h.d.c)) (by kernel_rfl) (by kernel_rfl) (by intro d v c a w h; cases d <;> exact h) (⟨HDR.out.fn, HDR.out.2.1 _ _ (by rw [← HAB2.out]; exact HC.out 1 _ rfl), (HDR.out.2.2.2.1.1 0), ((HDR.out.2.2.1.1 5).trans (by rw [← HAB.out]; rfl))⟩) ?_
             repeat ((first | refine ord_skip rfl rfl ?_ | (refine ord_q rfl rfl ?_; apply Exists.intro; refine ⟨fun wS hS => ?_, ?_⟩; (go_simp; try with_reducible rfl))); simp only [Act.put, List.setIfInBounds_toArray, List.set_cons_zero, List.set_cons_succ])
             refine ord_l rfl rfl (fun K hK => ?_)
             go_simp
             refine HCALL.out.mono ?_
             rintro e1 Y ⟨⟨r, rfl⟩, hon2⟩
             have HS2 := hid hon2
             refine hK _ _ ⟨hon2.fn, hon2.2.1 _ _ (by rw [← HAB2.out]; exact HC.out 1 _ rfl), (hon2.2.2.2.1.1 0), ((hon2.2.2.1.1 5).trans (by rw [← HAB.out]; rfl))⟩ ?_
             clear hK K hon2 HCALL HDR
             refine ord_nil ?_
             go_wp2_with fail
             go_roundw
             case rel => exact ⟨j + 1, by omega, by go_num, HS2.out⟩
             case measure => simp [RowKit.intOf]; omega
           · have hlen1 := HER.out.len
             have HSE : Hid (On J Jx (spokenL es ds ms qs scan dn mn) l bh bp h w W ((ds.drop (k + 1)).flatMap (fun x => ordN x (dn x)) ++ restD) wr) := by
               have := HS0.out; rw [List.drop_eq_nil_of_le (by omega)] at this; exact hid (by simpa using this)
             go_wp2_with fail
             go_roundw
             case rel => exact ⟨k + 1, by omega, by go_num, HSE.out⟩
             case measure => simp [RowKit.intOf]; omega
       · have hlen0 := (HDD.out.2.1).len
         have HOE : Hid (On J Jx (spokenL es ds ms qs scan dn mn) l bh bp h w W restD wr) := by
           have := HN.out; rw [List.drop_eq_nil_of_le (by omega)] at this; exact hid (by simpa using this)
         have hcp : wr.cell? ⟨bp, 0, none⟩ = some (.pointer (some ⟨bh, 0, none⟩)) := HOE.out.2.2.2.1.1 0
         have hch : wr.cell? ⟨bh, 6, none⟩ = some (h.m.v) := HOE.out.2.2.1.1 6
         go_wp2_with fail
         clear hcp hch
         rw [HRD.out] at HOE
         go_loopw [143] (fun i wr => ∃ k : Nat, k ≤ h.m.n ∧ i = .int .i64 k ∧ On J Jx (spokenL es ds ms qs scan dn mn) l bh bp h w W ((ms.drop k).flatMap (fun x => matN x (mn x)) ++ restM) wr) (fun i _ => h.m.n - (RowKit.intOf i).toNat)
         case atStart => exact ⟨0, Nat.zero_le _, rfl, by simpa using HOE.out⟩
         case round =>
           obtain ⟨k, hk, rfl, hon⟩ := hrel
           have HN := hid hon; clear hon
           have hle0 := (HDD.out.2.2.1).le
           by_cases hlt : k < h.m.n
           · obtain ⟨x, b, o, hx, hab, hc⟩ := (HDD.out.2.2.1).at_ hlt
             have HC := hid hc; have HX := hid hx; have HAB := hid hab
             clear hx hab hc
             have hdrop : ms.drop k = x :: ms.drop (k + 1) := by
               rw [List.drop_eq_getElem_cons (List.getElem?_eq_some_iff.1 HX.out).1, (List.getElem?_eq_some_iff.1 HX.out).2]
             have hcp : wr.cell? ⟨bp, 0, none⟩ = some (.pointer (some ⟨bh, 0, none⟩)) := HN.out.2.2.2.1.1 0
             have hch : wr.cell? ⟨bh, 6, none⟩ = some (.slice (some ⟨b, o, none⟩) h.m.n h.m.c) := (HN.out.2.2.1.1 6).trans (by rw [← HAB.out]; rfl)
             have HN0 : Hid (On J Jx (spokenL es ds ms qs scan dn mn) l bh bp h w W ((3, x.pred) :: ((2, x.obj) :: ((mn x).map (fun d => (0, d)) ++ ((ms.drop (k + 1)).flatMap (fun x => matN x (mn x)) ++ restM)))) wr) := by
               have := HN.out; rw [hdrop, List.flatMap_cons] at this; simp only [matN, List.cons_append, List.append_assoc] at this; exact hid this
             clear hdrop
             go_wp2_with fail
             clear hcp hch
             have HDR := hid (On.drew HJ.out HJX.out HN0.out)
             have HCALL := hid (HSAY.out (3, x.pred) _ b (o + k * 4) _ HDR.out (HC.out 0 _ rfl))
             refine wp_region_ord [(0, true), (1, true), (2, true), (3, true), (4, false)] (fun W' => Bx W' (W.heap.size + 2) #[.func (.func 109) #[] #[.pointer (some ⟨W.heap.size + 1, 0, none⟩), .pointer (some ⟨W.heap.size, 0, none⟩)]]) (by kernel_rfl) (by kernel_rfl) (by intro d v c a w h; cases d <;> exact h) (HDR.out.fn) ?_
             repeat ((first | refine ord_skip rfl rfl ?_ | (refine ord_q rfl rfl ?_; apply Exists.intro; refine ⟨fun wS hS => ?_, ?_⟩; (go_simp; try with_reducible rfl))); simp only [Act.put, List.setIfInBounds_toArray, List.set_cons_zero, List.set_cons_succ])
             refine ord_l rfl rfl (fun K hK => ?_)
             go_simp
             refine HCALL.out.mono ?_
             rintro e1 Y ⟨⟨r, rfl⟩, hon2⟩
             have HN1 := hid hon2
             refine hK _ _ hon2.fn ?_
             clear hK K hon2 HCALL HDR
             refine ord_nil ?_
             go_wp2_with fail
             have HDR := hid (On.drew HJ.out HJX.out HN1.out)
             have HCALL := hid (HSAY.out (2, x.obj) _ b (o + k * 4 + 1) _ HDR.out (HC.out 1 _ rfl))
             refine wp_region_ord [(0, true), (1, true), (2, true), (3, true), (4, false)] (fun W' => Bx W' (W.heap.size + 2) #[.func (.func 109) #[] #[.pointer (some ⟨W.heap.size + 1, 0, none⟩), .pointer (some ⟨W.heap.size, 0, none⟩)]]) (by kernel_rfl) (by kernel_rfl) (by intro d v c a w h; cases d <;> exact h) (HDR.out.fn) ?_
             repeat ((first | refine ord_skip rfl rfl ?_ | (refine ord_q rfl rfl ?_; apply Exists.intro; refine ⟨fun wS hS => ?_, ?_⟩; (go_simp; try with_reducible rfl))); simp only [Act.put, List.setIfInBounds_toArray, List.set_cons_zero, List.set_cons_succ])
             refine ord_l rfl rfl (fun K hK => ?_)
             go_simp
             refine HCALL.out.mono ?_
             rintro e1 Y ⟨⟨r, rfl⟩, hon2⟩
             have HN2 := hid hon2
             refine hK _ _ hon2.fn ?_
             clear hK K hon2 HCALL HDR
             refine ord_nil ?_
             have hsl : Y.cell? ⟨b, o + k * 4 + 3, none⟩ = some (.slice x.sa x.sn x.sc) := HN2.out.2.1 _ _ (HC.out 3 _ rfl)
             go_wp2_with fail
             clear hsl
             go_loopw [167] (fun i wr => ∃ j : Nat, j ≤ x.sn ∧ i = .int .i64 j ∧ On J Jx (spokenL es ds ms qs scan dn mn) l bh bp h w W (((mn x).drop j).map (fun d => (0, d)) ++ ((ms.drop (k + 1)).flatMap (fun x => matN x (mn x)) ++ restM)) wr) (fun i _ => x.sn - (RowKit.intOf i).toNat)
             case atStart => exact ⟨0, Nat.zero_le _, rfl, by simpa using HN2.out⟩
             case round =>
               obtain ⟨j, hj, rfl, hon⟩ := hrel
               have HS0 := hid hon; clear hon
               have HER := hid (HDD.out.2.2.2.2.2.2 x (List.mem_of_getElem? HX.out))
               have hle1 := HER.out.le
               by_cases hjl : j < x.sn
               · obtain ⟨d, b2, o2, hx2, hab2, hc2⟩ := HER.out.at_ hjl
                 have HC2 := hid hc2; have HX2 := hid hx2; have HAB2 := hid hab2
                 clear hc2 hx2 hab2
                 have hdrop2 : (mn x).drop j = d :: (mn x).drop (j + 1) := by
                   rw [List.drop_eq_getElem_cons (List.getElem?_eq_some_iff.1 HX2.out).1, (List.getElem?_eq_some_iff.1 HX2.out).2]
                 have HS1 : Hid (On J Jx (spokenL es ds ms qs scan dn mn) l bh bp h w W ((0, d) :: (((mn x).drop (j + 1)).map (fun d => (0, d)) ++ ((ms.drop (k + 1)).flatMap (fun x => matN x (mn x)) ++ restM))) wr) := by
                   have := HS0.out; rw [hdrop2, List.map_cons] at this; exact hid (by simpa using this)
                 clear hdrop2
                 go_wp2_with fail
                 have HDR := hid (On.drew HJ.out HJX.out HS1.out)
                 have HCALL := hid (HSAY.out (0, d) _ b2 (o2 + j) _ HDR.out (by have := HC2.out 0 _ rfl; simpa using this))
                 refine wp_region_ord [(0, true), (1, true), (2, true), (3, true), (4, true), (5, true), (6, true), (7, false)] (fun W' => Bx W' (W.heap.size + 2) #[.func (.func 109) #[] #[.pointer (some ⟨W.heap.size + 1, 0, none⟩), .pointer (some ⟨W.heap.size, 0, none⟩)]] ∧ W'.cell? ⟨b, o + k * 4 + 3, none⟩ = some (.slice (some ⟨b2, o2, none⟩) x.sn x.sc)) (by kernel_rfl) (by kernel_rfl) (by intro d v c a w h; cases d <;> exact h) (⟨HDR.out.fn, HDR.out.2.1 _ _ (by rw [← HAB2.out]; exact HC.out 3 _ rfl)⟩) ?_
                 repeat ((first | refine ord_skip rfl rfl ?_ | (refine ord_q rfl rfl ?_; apply Exists.intro; refine ⟨fun wS hS => ?_, ?_⟩; (go_simp; try with_reducible rfl))); simp only [Act.put, List.setIfInBounds_toArray, List.set_cons_zero, List.set_cons_succ])
                 refine ord_l rfl rfl (fun K hK => ?_)
                 go_simp
                 refine HCALL.out.mono ?_
                 rintro e1 Y ⟨⟨r, rfl⟩, hon2⟩
                 have HS2 := hid hon2
                 refine hK _ _ ⟨hon2.fn, hon2.2.1 _ _ (by rw [← HAB2.out]; exact HC.out 3 _ rfl)⟩ ?_
                 clear hK K hon2 HCALL HDR
                 refine ord_nil ?_
                 go_wp2_with fail
                 go_roundw
                 case rel => exact ⟨j + 1, by omega, by go_num, HS2.out⟩
                 case measure => simp [RowKit.intOf]; omega
               · have hlen1 := HER.out.len
                 have HSE : Hid (On J Jx (spokenL es ds ms qs scan dn mn) l bh bp h w W ((ms.drop (k + 1)).flatMap (fun x => matN x (mn x)) ++ restM) wr) := by
                   have := HS0.out; rw [List.drop_eq_nil_of_le (by omega)] at this; exact hid (by simpa using this)
                 go_wp2_with fail
                 go_roundw
                 case rel => exact ⟨k + 1, by omega, by go_num, HSE.out⟩
                 case measure => simp [RowKit.intOf]; omega
           · have hlen0 := (HDD.out.2.2.1).len
             have HOE : Hid (On J Jx (spokenL es ds ms qs scan dn mn) l bh bp h w W restM wr) := by
               have := HN.out; rw [List.drop_eq_nil_of_le (by omega)] at this; exact hid (by simpa using this)
             have hcp : wr.cell? ⟨bp, 0, none⟩ = some (.pointer (some ⟨bh, 0, none⟩)) := HOE.out.2.2.2.1.1 0
             have hch : wr.cell? ⟨bh, 7, none⟩ = some (h.w.v) := HOE.out.2.2.1.1 7
             go_wp2_with fail
             clear hcp hch
             rw [HRM.out] at HOE
             go_loopw [185] (fun i wr => ∃ k : Nat, k ≤ h.w.n ∧ i = .int .i64 k ∧ On J Jx (spokenL es ds ms qs scan dn mn) l bh bp h w W ((qs.drop k).flatMap wantN ++ []) wr) (fun i _ => h.w.n - (RowKit.intOf i).toNat)
             case atStart => exact ⟨0, Nat.zero_le _, rfl, by simpa using HOE.out⟩
             case round =>
               obtain ⟨k, hk, rfl, hon⟩ := hrel
               have HN := hid hon; clear hon
               have hle0 := (HDD.out.2.2.2.1).le
               by_cases hlt : k < h.w.n
               · obtain ⟨x, b, o, hx, hab, hc⟩ := (HDD.out.2.2.2.1).at_ hlt
                 have HC := hid hc; have HX := hid hx; have HAB := hid hab
                 clear hx hab hc
                 have hdrop : qs.drop k = x :: qs.drop (k + 1) := by
                   rw [List.drop_eq_getElem_cons (List.getElem?_eq_some_iff.1 HX.out).1, (List.getElem?_eq_some_iff.1 HX.out).2]
                 have hcp : wr.cell? ⟨bp, 0, none⟩ = some (.pointer (some ⟨bh, 0, none⟩)) := HN.out.2.2.2.1.1 0
                 have hch : wr.cell? ⟨bh, 7, none⟩ = some (.slice (some ⟨b, o, none⟩) h.w.n h.w.c) := (HN.out.2.2.1.1 7).trans (by rw [← HAB.out]; rfl)
                 have HN0 : Hid (On J Jx (spokenL es ds ms qs scan dn mn) l bh bp h w W ((1, x.ses) :: ((qs.drop (k + 1)).flatMap wantN ++ [])) wr) := by
                   have := HN.out; rw [hdrop, List.flatMap_cons] at this; simp only [wantN, List.cons_append, List.nil_append] at this; exact hid this
                 clear hdrop
                 go_wp2_with fail
                 clear hcp hch
                 have HDR := hid (On.drew HJ.out HJX.out HN0.out)
                 have HCALL := hid (HSAY.out (1, x.ses) _ b (o + k * 2) _ HDR.out (HC.out 0 _ rfl))
                 refine wp_region_ord [(0, true), (1, true), (2, true), (3, true), (4, true), (5, true), (6, true), (7, true), (8, false)] (fun W' => Bx W' (W.heap.size + 2) #[.func (.func 109) #[] #[.pointer (some ⟨W.heap.size + 1, 0, none⟩), .pointer (some ⟨W.heap.size, 0, none⟩)]] ∧ W'.cell? ⟨bp, 0, none⟩ = some (.pointer (some ⟨bh, 0, none⟩)) ∧ W'.cell? ⟨bh, 7, none⟩ = some (.slice (some ⟨b, o, none⟩) h.w.n h.w.c)) (by kernel_rfl) (by kernel_rfl) (by intro d v c a w h; cases d <;> exact h) (⟨HDR.out.fn, (HDR.out.2.2.2.1.1 0), ((HDR.out.2.2.1.1 7).trans (by rw [← HAB.out]; rfl))⟩) ?_
                 repeat ((first | refine ord_skip rfl rfl ?_ | (refine ord_q rfl rfl ?_; apply Exists.intro; refine ⟨fun wS hS => ?_, ?_⟩; (go_simp; try with_reducible rfl))); simp only [Act.put, List.setIfInBounds_toArray, List.set_cons_zero, List.set_cons_succ])
                 refine ord_l rfl rfl (fun K hK => ?_)
                 go_simp
                 refine HCALL.out.mono ?_
                 rintro e1 Y ⟨⟨r, rfl⟩, hon2⟩
                 have HN1 := hid hon2
                 refine hK _ _ ⟨hon2.fn, (hon2.2.2.2.1.1 0), ((hon2.2.2.1.1 7).trans (by rw [← HAB.out]; rfl))⟩ ?_
                 clear hK K hon2 HCALL HDR
                 refine ord_nil ?_
                 go_wp2_with fail
                 go_roundw
                 case rel => exact ⟨k + 1, by omega, by go_num, HN1.out⟩
                 case measure => simp [RowKit.intOf]; omega
               · have hlen0 := (HDD.out.2.2.2.1).len
                 have HOE : Hid (On J Jx (spokenL es ds ms qs scan dn mn) l bh bp h w W [] wr) := by
                   have := HN.out; rw [List.drop_eq_nil_of_le (by omega)] at this; exact hid (by simpa using this)
                 go_wp2_with fail
                 go_end0
                 obtain ⟨⟨pre, hp, a0, a2, a1⟩, _⟩ := HOE.out
                 rw [List.append_nil] at hp
                 refine ⟨_, rfl, ?_⟩
                 rcases a1 with ⟨_, hj⟩ | ⟨_, p, hpx, hj⟩
                 · exact .inl (hp ▸ hj)
                 · exact .inr ⟨p, hpx, hj⟩
end Yd
