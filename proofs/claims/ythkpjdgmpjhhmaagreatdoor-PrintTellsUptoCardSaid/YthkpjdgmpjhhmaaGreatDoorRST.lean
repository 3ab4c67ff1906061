import Derived.Test.YthkpjdgmpjhhmaaGreatDoorRefA
import Derived.Test.YthkpjdgmpjhhmaaGreatDoorOwnSt
import Derived.Test.YthkpjdgmpjhhmaaGreatDoorGround
import Derived.Test.YthkpjdgmpjhhmaaGreatDoorRefB
import Derived.Test.YthkpjdgmpjhhmaaGreatDoorProg
set_option maxRecDepth 200000
set_option maxHeartbeats 8000000
namespace Yd
open Go Go.RowKit Go.Proofs
attribute [local go_sem] Oper.semAt_some

structure Says (X : World) (h : HC) (c : Cont) (es : List EvC) (ds : List OrC) (ms : List MaC) (scan : EvC → List Sn) (dn : OrC → List Int) (mn : MaC → List Int) : Prop where
 d : Deep X h es ds ms c.Q scan dn mn
 n : ∀ i, i < 4 → Row X 1 encStr (h.nm i).a (h.nm i).n (h.nm i).c (c.nl i)
 be : es.map EvC.base = c.E
 bd : ds.map OrC.base = c.D
 bm : ms.map MaC.base = c.M
 se : es.map scan = c.SE
 sd : ds.map dn = c.SD
 sm : ms.map mn = c.SM
theorem Says.below {X Y : World} {h : HC} {c : Cont} {es : List EvC} {ds : List OrC} {ms : List MaC} {scan : EvC → List Sn} {dn : OrC → List Int} {mn : MaC → List Int} (s : Says X h c es ds ms scan dn mn) (hb : Below X.heap.size X Y) : Says Y h c es ds ms scan dn mn :=
 ⟨s.d.below hb rfl, fun i hi => (s.n i hi).below hb rfl, s.be, s.bd, s.bm, s.se, s.sd, s.sm⟩
theorem map_at {α β : Type} {f g : α → β} {xs ys : List α} {i : Nat} {x y : α} (h : xs.map f = ys.map g) (hx : xs[i]? = some x) (hy : ys[i]? = some y) : f x = g y := by
 have := congrArg (fun l => l[i]?) h
 simp only [List.getElem?_map, hx, hy, Option.map_some] at this
 injection this
theorem map_len {α β : Type} {f g : α → β} {xs ys : List α} (h : xs.map f = ys.map g) : xs.length = ys.length := by
 have := congrArg List.length h
 simpa using this
theorem r_SameT (h h2 : HC) (c : Cont) (es : List EvC) (ds : List OrC) (ms : List MaC) (scan : EvC → List Sn) (dn : OrC → List Int) (mn : MaC → List Int) (es2 : List EvC) (ds2 : List OrC) (ms2 : List MaC) (scan2 : EvC → List Sn) (dn2 : OrC → List Int) (mn2 : MaC → List Int) (w : World)
   (hs : Says w h c es ds ms scan dn mn) (hs2 : Says w h2 c es2 ds2 ms2 scan2 dn2 mn2) :
   Calls Tryz.prog 20 #[valH h, valH h2] w (Ret (.bool true) w) := by
 have HD := hid hs.d; have HD2 := hid hs2.d; have HN := hid hs.n; have HN2 := hid hs2.n
 have HBE := hid (hs.be.trans hs2.be.symm); have HBD := hid (hs.bd.trans hs2.bd.symm); have HBM := hid (hs.bm.trans hs2.bm.symm)
 have HSE := hid (hs.se.trans hs2.se.symm); have HSD := hid (hs.sd.trans hs2.sd.symm); have HSM := hid (hs.sm.trans hs2.sm.symm)
 have hle := hs.d.1.le; have hld := hs.d.2.1.le; have hlm := hs.d.2.2.1.le; have hlw := hs.d.2.2.2.1.le
 have qe : h.e.n = h2.e.n := by rw [← hs.d.1.len, ← hs2.d.1.len]; exact map_len HBE.out
 have qd : h.d.n = h2.d.n := by rw [← hs.d.2.1.len, ← hs2.d.2.1.len]; exact map_len HBD.out
 have qm : h.m.n = h2.m.n := by rw [← hs.d.2.2.1.len, ← hs2.d.2.2.1.len]; exact map_len HBM.out
 have qw : h.w.n = h2.w.n := by rw [← hs.d.2.2.2.1.len, ← hs2.d.2.2.2.1.len]
 have hkx := Bx.new w (cellsH h) 28
 have HB0 := hid (belowA (belowA (Below.refl w.heap.size w) (.cells (cellsH h) 28)) (.cells (cellsH h2) 28))
 have HX0 : Hid (Bx ((w.alloc (.cells (cellsH h) 28)).alloc (.cells (cellsH h2) 28)) w.heap.size (cellsH h) ∧ Bx ((w.alloc (.cells (cellsH h) 28)).alloc (.cells (cellsH h2) 28)) (w.heap.size + 1) (cellsH h2)) := hid ⟨hkx.alloc _, Bx.new1 (by simp)⟩
 clear hkx hs hs2
 obtain ⟨ht, hs, ho, hp, ⟨ea, en, ec⟩, ⟨da, dn_, dc⟩, ⟨ma, mn_, mc⟩, ⟨wa, wn, wc⟩⟩ := h
 obtain ⟨ht2, hs2, ho2, hp2, ⟨ea2, en2, ec2⟩, ⟨da2, dn_2, dc2⟩, ⟨ma2, mn_2, mc2⟩, ⟨wa2, wn2, wc2⟩⟩ := h2
 simp only at hle hld hlm hlw qe qd qm qw
 subst qe qd qm qw
 have HXA : Hid (Bx ((w.alloc (.cells #[ht.v, hs.v, ho.v, hp.v, .slice ea en ec, .slice da dn_ dc, .slice ma mn_ mc, .slice wa wn wc] 28)).alloc (.cells #[ht2.v, hs2.v, ho2.v, hp2.v, .slice ea2 en ec2, .slice da2 dn_ dc2, .slice ma2 mn_ mc2, .slice wa2 wn wc2] 28)) w.heap.size #[ht.v, hs.v, ho.v, hp.v, .slice ea en ec, .slice da dn_ dc, .slice ma mn_ mc, .slice wa wn wc] ∧ Bx ((w.alloc (.cells #[ht.v, hs.v, ho.v, hp.v, .slice ea en ec, .slice da dn_ dc, .slice ma mn_ mc, .slice wa wn wc] 28)).alloc (.cells #[ht2.v, hs2.v, ho2.v, hp2.v, .slice ea2 en ec2, .slice da2 dn_ dc2, .slice ma2 mn_ mc2, .slice wa2 wn wc2] 28)) (w.heap.size + 1) #[ht2.v, hs2.v, ho2.v, hp2.v, .slice ea2 en ec2, .slice da2 dn_ dc2, .slice ma2 mn_ mc2, .slice wa2 wn wc2]) := hid HX0.out
 clear HX0
 go_enter Tryz.func20, Tryz.ntmps20
 have hcx := HXA.out.1.1; have hlx := HXA.out.1.2.2; have hcy := HXA.out.2.1; have hly := HXA.out.2.2.2
 go_wp2_with fail
 refine (r_eqStr ht.a ht2.a ht.n ht.c ht2.n ht2.c (c.nl 0) (c.nl 0) _ ((HN.out 0 (by decide)).below HB0.out rfl) ((HN2.out 0 (by decide)).below HB0.out rfl)).mono ?_
 rintro e w1 ⟨rfl, hb⟩
 rw [decide_eq_true rfl]
 have HX1 := hid (keep2 HXA.out hb); have HB1 := hid (HB0.out.trans (hb.mono HB0.out.size))
 clear hb hcx hlx hcy hly
 have hcx := HX1.out.1.1; have hlx := HX1.out.1.2.2; have hcy := HX1.out.2.1; have hly := HX1.out.2.2.2
 go_wp2_with fail
 refine (r_eqStr hs.a hs2.a hs.n hs.c hs2.n hs2.c (c.nl 1) (c.nl 1) _ ((HN.out 1 (by decide)).below HB1.out rfl) ((HN2.out 1 (by decide)).below HB1.out rfl)).mono ?_
 rintro e w2 ⟨rfl, hb⟩
 rw [decide_eq_true rfl]
 have HX2 := hid (keep2 HX1.out hb); have HB2 := hid (HB1.out.trans (hb.mono HB1.out.size))
 clear hb hcx hlx hcy hly
 have hcx := HX2.out.1.1; have hlx := HX2.out.1.2.2; have hcy := HX2.out.2.1; have hly := HX2.out.2.2.2
 go_wp2_with fail
 refine (r_eqStr ho.a ho2.a ho.n ho.c ho2.n ho2.c (c.nl 2) (c.nl 2) _ ((HN.out 2 (by decide)).below HB2.out rfl) ((HN2.out 2 (by decide)).below HB2.out rfl)).mono ?_
 rintro e w3 ⟨rfl, hb⟩
 rw [decide_eq_true rfl]
 have HX3 := hid (keep2 HX2.out hb); have HB3 := hid (HB2.out.trans (hb.mono HB2.out.size))
 clear hb hcx hlx hcy hly
 have hcx := HX3.out.1.1; have hlx := HX3.out.1.2.2; have hcy := HX3.out.2.1; have hly := HX3.out.2.2.2
 go_wp2_with fail
 refine (r_eqStr hp.a hp2.a hp.n hp.c hp2.n hp2.c (c.nl 3) (c.nl 3) _ ((HN.out 3 (by decide)).below HB3.out rfl) ((HN2.out 3 (by decide)).below HB3.out rfl)).mono ?_
 rintro e w4 ⟨rfl, hb⟩
 rw [decide_eq_true rfl]
 have HX4 := hid (keep2 HX3.out hb); have HB4 := hid (HB3.out.trans (hb.mono HB3.out.size))
 clear hb hcx hlx hcy hly
 have hcx := HX4.out.1.1; have hlx := HX4.out.1.2.2; have hcy := HX4.out.2.1; have hly := HX4.out.2.2.2
 go_wp2_with fail
 clear hcx hlx hcy hly
 go_loopw [82] (fun i wr => ∃ k : Nat, k ≤ en ∧ i = .int .i64 k ∧ Below w.heap.size w wr ∧ Bx wr w.heap.size #[ht.v, hs.v, ho.v, hp.v, .slice ea en ec, .slice da dn_ dc, .slice ma mn_ mc, .slice wa wn wc] ∧ Bx wr (w.heap.size + 1) #[ht2.v, hs2.v, ho2.v, hp2.v, .slice ea2 en ec2, .slice da2 dn_ dc2, .slice ma2 mn_ mc2, .slice wa2 wn wc2]) (fun i _ => en - (RowKit.intOf i).toNat)
 case atStart => exact ⟨0, Nat.zero_le _, rfl, HB4.out, HX4.out.1, HX4.out.2⟩
 case round =>
   obtain ⟨k, hk, rfl, hbw, hxw⟩ := hrel
   have HBW := hid hbw; have HXW := hid hxw
   clear hbw hxw
   by_cases hlt : k < en
   · obtain ⟨x, b, o, hx, rfl, hc⟩ := (HD.out.1.below HBW.out rfl).at_ hlt
     obtain ⟨y, b2, o2, hy, rfl, hd⟩ := (HD2.out.1.below HBW.out rfl).at_ hlt
     have hmx := List.mem_of_getElem? hx; have hmy := List.mem_of_getElem? hy
     have e0 := hc 0 _ rfl
     have e1 := hc 1 _ rfl
     have e2 := hc 2 _ rfl
     have e3 := hc 3 _ rfl
     have e4 := hc 4 _ rfl
     have e5 := hc 5 _ rfl
     have e6 := hc 6 _ rfl
     have e7 := hc 7 _ rfl
     have e8 := hc 8 _ rfl
     have f0 := hd 0 _ rfl
     have f1 := hd 1 _ rfl
     have f2 := hd 2 _ rfl
     have f3 := hd 3 _ rfl
     have f4 := hd 4 _ rfl
     have f5 := hd 5 _ rfl
     have f6 := hd 6 _ rfl
     have f7 := hd 7 _ rfl
     have f8 := hd 8 _ rfl
     simp only [Nat.add_zero] at e0 f0
     have hbb := map_at HBE.out hx hy
     have hss := map_at HSE.out hx hy
     have hrx := HD.out.2.2.2.2.1 x hmx; have hry := HD2.out.2.2.2.2.1 y hmy
     obtain ⟨sx, hsx⟩ : ∃ sx, sx = scan x := ⟨_, rfl⟩
     rw [← hss, ← hsx] at hry
     rw [← hsx] at hrx
     clear hsx hss hx hy hc hd hmx hmy
     obtain ⟨xk, xt, xses, xl, xo, ⟨vt, vk⟩, xp, sa, sn, sc⟩ := x
     obtain ⟨yk, yt, yses, yl, yo, ⟨ut, uk⟩, yp, sa2, sn2, sc2⟩ := y
     simp only [EvC.base, EvC.wi, EvC.mk.injEq, Ver.mk.injEq, and_true] at hbb
     obtain ⟨rfl, rfl, rfl, rfl, rfl, ⟨rfl, rfl⟩, rfl⟩ := hbb
     simp only at e0 e1 e2 e3 e4 e5 e6 e7 e8 f0 f1 f2 f3 f4 f5 f6 f7 f8 hrx hry
     have HRX := hid hrx; have HRY := hid hry
     have HSM := hid (fun W (hb : Below w.heap.size w W) => r_same_ev ⟨xk, xt, xses, xl, xo, ⟨vt, vk⟩, xp, sa, sn, sc⟩ ⟨xk, xt, xses, xl, xo, ⟨vt, vk⟩, xp, sa2, sn2, sc2⟩ sx sx W (HRX.out.below hb rfl) (HRY.out.below hb rfl))
     have HTR : Hid ((sameFlat ⟨xk, xt, xses, xl, xo, ⟨vt, vk⟩, xp, sa, sn, sc⟩ ⟨xk, xt, xses, xl, xo, ⟨vt, vk⟩, xp, sa2, sn2, sc2⟩ && decide (sx = sx)) = true) := hid (by simp [sameFlat])
     have HES := hid (⟨e0, e1, e2, e3, e4, e5, e6, e7, e8, f0, f1, f2, f3, f4, f5, f6, f7, f8⟩ : _ ∧ _ ∧ _ ∧ _ ∧ _ ∧ _ ∧ _ ∧ _ ∧ _ ∧ _ ∧ _ ∧ _ ∧ _ ∧ _ ∧ _ ∧ _ ∧ _ ∧ _)
     clear hrx hry
     go_wp2_with fail
     clear e0 f0 e1 f1 e2 f2 e3 f3 e4 f4 e5 f5 e6 f6 e7 f7 e8 f8
     refine wp_region_ordC 12 [(0, 0), (1, 0), (2, 0), (3, 0), (4, 0), (5, 0), (6, 0), (7, 0), (8, 0), (9, 0), (10, 2), (11, 0)] (fun _ => True) (fun W' => (Bx W' w.heap.size #[ht.v, hs.v, ho.v, hp.v, .slice (some ⟨b, o, none⟩) en ec, .slice da dn_ dc, .slice ma mn_ mc, .slice wa wn wc] ∧ Bx W' (w.heap.size + 1) #[ht2.v, hs2.v, ho2.v, hp2.v, .slice (some ⟨b2, o2, none⟩) en ec2, .slice da2 dn_ dc2, .slice ma2 mn_ mc2, .slice wa2 wn wc2]) ∧ W'.cell? ⟨b, o + k * 9, none⟩ = some (.int .i64 xk) ∧ W'.cell? ⟨b, o + k * 9 + 1, none⟩ = some (.int .i64 xt) ∧ W'.cell? ⟨b, o + k * 9 + 2, none⟩ = some (.int .i64 xses) ∧ W'.cell? ⟨b, o + k * 9 + 3, none⟩ = some (.int .i64 xl) ∧ W'.cell? ⟨b, o + k * 9 + 4, none⟩ = some (.int .i64 xo) ∧ W'.cell? ⟨b, o + k * 9 + 5, none⟩ = some (.int .i64 vt) ∧ W'.cell? ⟨b, o + k * 9 + 6, none⟩ = some (.int .i64 vk) ∧ W'.cell? ⟨b, o + k * 9 + 7, none⟩ = some (.int .i64 xp) ∧ W'.cell? ⟨b, o + k * 9 + 8, none⟩ = some (.slice sa sn sc) ∧ W'.cell? ⟨b2, o2 + k * 9, none⟩ = some (.int .i64 xk) ∧ W'.cell? ⟨b2, o2 + k * 9 + 1, none⟩ = some (.int .i64 xt) ∧ W'.cell? ⟨b2, o2 + k * 9 + 2, none⟩ = some (.int .i64 xses) ∧ W'.cell? ⟨b2, o2 + k * 9 + 3, none⟩ = some (.int .i64 xl) ∧ W'.cell? ⟨b2, o2 + k * 9 + 4, none⟩ = some (.int .i64 xo) ∧ W'.cell? ⟨b2, o2 + k * 9 + 5, none⟩ = some (.int .i64 vt) ∧ W'.cell? ⟨b2, o2 + k * 9 + 6, none⟩ = some (.int .i64 vk) ∧ W'.cell? ⟨b2, o2 + k * 9 + 7, none⟩ = some (.int .i64 xp) ∧ W'.cell? ⟨b2, o2 + k * 9 + 8, none⟩ = some (.slice sa2 sn2 sc2)) (by kernel_rfl) (by kernel_rfl) (trivial) (⟨HXW.out, HES.out⟩) ?_
     repeat ((first | refine ordC_skip rfl rfl ?_ | refine ordC_skip1 rfl rfl ?_ | ((first | refine ordC_q rfl rfl ?_ | refine ordC_p rfl rfl ?_); apply Exists.intro; refine ⟨fun wS hS => ?_, ?_⟩; (go_simp; try with_reducible rfl))); simp only [Act.put, List.setIfInBounds_toArray, List.set_cons_zero, List.set_cons_succ])
     refine ordC_l rfl rfl (fun K hK => ?_)
     go_simp
     refine (HSM.out _ (HBW.out.trans ((Below.refl _ _).drew.mono HBW.out.size))).mono ?_
     rintro en Y ⟨rfl, hbY⟩
     rw [HTR.out]
     have HBY := hid (HBW.out.trans ((show Below wr.heap.size wr Y from (Below.refl _ _).drew.trans hbY).mono HBW.out.size)); have HXY := hid (keep2 HXW.out (show Below wr.heap.size wr Y from (Below.refl _ _).drew.trans hbY))
     have HBQ := hid (show Below wr.heap.size wr Y from (Below.refl _ _).drew.trans hbY)
     refine hK _ _ ⟨trivial, HXY.out, bget HBQ.out rfl HES.out.1, bget HBQ.out rfl HES.out.2.1, bget HBQ.out rfl HES.out.2.2.1, bget HBQ.out rfl HES.out.2.2.2.1, bget HBQ.out rfl HES.out.2.2.2.2.1, bget HBQ.out rfl HES.out.2.2.2.2.2.1, bget HBQ.out rfl HES.out.2.2.2.2.2.2.1, bget HBQ.out rfl HES.out.2.2.2.2.2.2.2.1, bget HBQ.out rfl HES.out.2.2.2.2.2.2.2.2.1, bget HBQ.out rfl HES.out.2.2.2.2.2.2.2.2.2.1, bget HBQ.out rfl HES.out.2.2.2.2.2.2.2.2.2.2.1, bget HBQ.out rfl HES.out.2.2.2.2.2.2.2.2.2.2.2.1, bget HBQ.out rfl HES.out.2.2.2.2.2.2.2.2.2.2.2.2.1, bget HBQ.out rfl HES.out.2.2.2.2.2.2.2.2.2.2.2.2.2.1, bget HBQ.out rfl HES.out.2.2.2.2.2.2.2.2.2.2.2.2.2.2.1, bget HBQ.out rfl HES.out.2.2.2.2.2.2.2.2.2.2.2.2.2.2.2.1, bget HBQ.out rfl HES.out.2.2.2.2.2.2.2.2.2.2.2.2.2.2.2.2.1, bget HBQ.out rfl HES.out.2.2.2.2.2.2.2.2.2.2.2.2.2.2.2.2.2⟩ ?_
     clear hK K hbY
     repeat ((first | refine ordC_skip rfl rfl ?_ | refine ordC_skip1 rfl rfl ?_ | ((first | refine ordC_q rfl rfl ?_ | refine ordC_p rfl rfl ?_); apply Exists.intro; refine ⟨fun wS hS => ?_, ?_⟩; (go_simp; try with_reducible rfl))); simp only [Act.put, List.setIfInBounds_toArray, List.set_cons_zero, List.set_cons_succ])
     refine ordC_nil ?_
     go_wp2_with fail
     go_roundw
     case rel => exact ⟨k + 1, by omega, by go_num, HBY.out, HXY.out⟩
     case measure => simp [RowKit.intOf]; omega
   · obtain rfl : en = k := by omega
     have hcx := HXW.out.1.1; have hlx := HXW.out.1.2.2; have hcy := HXW.out.2.1; have hly := HXW.out.2.2.2
     go_wp2_with fail
     clear hcx hlx hcy hly
     go_loopw [101] (fun i wr => ∃ k : Nat, k ≤ dn_ ∧ i = .int .i64 k ∧ Below w.heap.size w wr ∧ Bx wr w.heap.size #[ht.v, hs.v, ho.v, hp.v, .slice ea en ec, .slice da dn_ dc, .slice ma mn_ mc, .slice wa wn wc] ∧ Bx wr (w.heap.size + 1) #[ht2.v, hs2.v, ho2.v, hp2.v, .slice ea2 en ec2, .slice da2 dn_ dc2, .slice ma2 mn_ mc2, .slice wa2 wn wc2]) (fun i _ => dn_ - (RowKit.intOf i).toNat)
     case atStart => exact ⟨0, Nat.zero_le _, rfl, HBW.out, HXW.out.1, HXW.out.2⟩
     case round =>
       obtain ⟨k, hk, rfl, hbw, hxw⟩ := hrel
       have HBW := hid hbw; have HXW := hid hxw
       clear hbw hxw
       by_cases hlt : k < dn_
       · obtain ⟨x, b, o, hx, rfl, hc⟩ := (HD.out.2.1.below HBW.out rfl).at_ hlt
         obtain ⟨y, b2, o2, hy, rfl, hd⟩ := (HD2.out.2.1.below HBW.out rfl).at_ hlt
         have hmx := List.mem_of_getElem? hx; have hmy := List.mem_of_getElem? hy
         have e0 := hc 0 _ rfl; have f0 := hd 0 _ rfl
         have e1 := hc 1 _ rfl; have f1 := hd 1 _ rfl
         simp only [Nat.add_zero] at e0 f0
         have hbb := map_at HBD.out hx hy
         have hss := map_at HSD.out hx hy
         have hrx := HD.out.2.2.2.2.2.1 x hmx; have hry := HD2.out.2.2.2.2.2.1 y hmy
         obtain ⟨sx, hsx⟩ : ∃ sx, sx = dn x := ⟨_, rfl⟩
         rw [← hss, ← hsx] at hry
         rw [← hsx] at hrx
         clear hsx hss hx hy hc hd hmx hmy
         obtain ⟨xo, sa, sn, sc⟩ := x
         obtain ⟨yo, sa2, sn2, sc2⟩ := y
         simp only [OrC.base, OrC.wi, OrC.mk.injEq, and_true] at hbb
         obtain rfl := hbb
         simp only at e0 f0 e1 f1 hrx hry
         have hbz := belowA (belowA HBW.out (.cells #[.int .i64 xo, .slice sa sn sc] 72)) (.cells #[.int .i64 xo, .slice sa2 sn2 sc2] 72)
         have hsq := r_eqInt sa sa2 sn sc sn2 sc2 sx sx _ (hrx.below hbz rfl) (hry.below hbz rfl)
         rw [decide_eq_true rfl] at hsq
         have HSQ := hid hsq
         clear hsq
         have HXZ : Hid ((Bx ((wr.alloc (.cells #[.int .i64 xo, .slice sa sn sc] 72)).alloc (.cells #[.int .i64 xo, .slice sa2 sn2 sc2] 72)) w.heap.size #[ht.v, hs.v, ho.v, hp.v, .slice ea en ec, .slice (some ⟨b, o, none⟩) dn_ dc, .slice ma mn_ mc, .slice wa wn wc] ∧ Bx ((wr.alloc (.cells #[.int .i64 xo, .slice sa sn sc] 72)).alloc (.cells #[.int .i64 xo, .slice sa2 sn2 sc2] 72)) (w.heap.size + 1) #[ht2.v, hs2.v, ho2.v, hp2.v, .slice ea2 en ec2, .slice (some ⟨b2, o2, none⟩) dn_ dc2, .slice ma2 mn_ mc2, .slice wa2 wn wc2])) := hid ⟨(HXW.out.1.alloc _).alloc _, (HXW.out.2.alloc _).alloc _⟩
         have HBZ := hid hbz
         have hbp1 : Bx ((wr.alloc (.cells #[.int .i64 xo, .slice sa sn sc] 72)).alloc (.cells #[.int .i64 xo, .slice sa2 sn2 sc2] 72)) wr.heap.size #[.int .i64 xo, .slice sa sn sc] := (Bx.new wr #[.int .i64 xo, .slice sa sn sc] 72).alloc _
         have hbp2 : Bx ((wr.alloc (.cells #[.int .i64 xo, .slice sa sn sc] 72)).alloc (.cells #[.int .i64 xo, .slice sa2 sn2 sc2] 72)) (wr.heap.size + 1) #[.int .i64 xo, .slice sa2 sn2 sc2] := Bx.new1 (by simp)
         have hq : Bx (wr.alloc (.cells #[.int .i64 xo, .slice sa sn sc] 72)) (w.heap.size + 1) #[ht2.v, hs2.v, ho2.v, hp2.v, .slice ea2 en ec2, .slice (some ⟨b2, o2, none⟩) dn_ dc2, .slice ma2 mn_ mc2, .slice wa2 wn wc2] := HXW.out.2.alloc _
         have g0 := cellA (.cells #[.int .i64 xo, .slice sa sn sc] 72) f0
         have g1 := cellA (.cells #[.int .i64 xo, .slice sa sn sc] 72) f1
         have hcp := hbp1.1; have hlp := hbp1.2.2; have hcq := hbp2.1; have hlq := hbp2.2.2; have hcr := hq.1; have hlr := hq.2.2
         clear hrx hry hbz hbp1 hbp2 hq f0 f1
         go_wp2_with fail
         refine HSQ.out.mono ?_
         rintro e w5 ⟨rfl, hb⟩
         have HXY := hid (keep2 HXZ.out hb); have HBY := hid (HBZ.out.trans (hb.mono HBZ.out.size))
         clear hb hcp hlp hcq hlq hcr hlr e0 g0 e1 g1
         go_wp2_with fail
         go_roundw
         case rel => exact ⟨k + 1, by omega, by go_num, HBY.out, HXY.out⟩
         case measure => simp [RowKit.intOf]; omega
       · obtain rfl : dn_ = k := by omega
         have hcx := HXW.out.1.1; have hlx := HXW.out.1.2.2; have hcy := HXW.out.2.1; have hly := HXW.out.2.2.2
         go_wp2_with fail
         clear hcx hlx hcy hly
         go_loopw [128] (fun i wr => ∃ k : Nat, k ≤ mn_ ∧ i = .int .i64 k ∧ Below w.heap.size w wr ∧ Bx wr w.heap.size #[ht.v, hs.v, ho.v, hp.v, .slice ea en ec, .slice da dn_ dc, .slice ma mn_ mc, .slice wa wn wc] ∧ Bx wr (w.heap.size + 1) #[ht2.v, hs2.v, ho2.v, hp2.v, .slice ea2 en ec2, .slice da2 dn_ dc2, .slice ma2 mn_ mc2, .slice wa2 wn wc2]) (fun i _ => mn_ - (RowKit.intOf i).toNat)
         case atStart => exact ⟨0, Nat.zero_le _, rfl, HBW.out, HXW.out.1, HXW.out.2⟩
         case round =>
           obtain ⟨k, hk, rfl, hbw, hxw⟩ := hrel
           have HBW := hid hbw; have HXW := hid hxw
           clear hbw hxw
           by_cases hlt : k < mn_
           · obtain ⟨x, b, o, hx, rfl, hc⟩ := (HD.out.2.2.1.below HBW.out rfl).at_ hlt
             obtain ⟨y, b2, o2, hy, rfl, hd⟩ := (HD2.out.2.2.1.below HBW.out rfl).at_ hlt
             have hmx := List.mem_of_getElem? hx; have hmy := List.mem_of_getElem? hy
             have e0 := hc 0 _ rfl; have f0 := hd 0 _ rfl
             have e1 := hc 1 _ rfl; have f1 := hd 1 _ rfl
             have e2 := hc 2 _ rfl; have f2 := hd 2 _ rfl
             have e3 := hc 3 _ rfl; have f3 := hd 3 _ rfl
             simp only [Nat.add_zero] at e0 f0
             have hbb := map_at HBM.out hx hy
             have hss := map_at HSM.out hx hy
             have hrx := HD.out.2.2.2.2.2.2 x hmx; have hry := HD2.out.2.2.2.2.2.2 y hmy
             obtain ⟨sx, hsx⟩ : ∃ sx, sx = mn x := ⟨_, rfl⟩
             rw [← hss, ← hsx] at hry
             rw [← hsx] at hrx
             clear hsx hss hx hy hc hd hmx hmy
             obtain ⟨xp, xo, xf, sa, sn, sc⟩ := x
             obtain ⟨yp, yo, yf, sa2, sn2, sc2⟩ := y
             simp only [MaC.base, MaC.wi, MaC.mk.injEq, and_true] at hbb
             obtain ⟨rfl, rfl, rfl⟩ := hbb
             simp only at e0 f0 e1 f1 e2 f2 e3 f3 hrx hry
             have hbz := belowA (belowA HBW.out (.cells #[.int .i64 xp, .int .i64 xo, .bool xf, .slice sa sn sc] 79)) (.cells #[.int .i64 xp, .int .i64 xo, .bool xf, .slice sa2 sn2 sc2] 79)
             have hsq := r_eqInt sa sa2 sn sc sn2 sc2 sx sx _ (hrx.below hbz rfl) (hry.below hbz rfl)
             rw [decide_eq_true rfl] at hsq
             have HSQ := hid hsq
             clear hsq
             have HXZ : Hid ((Bx ((wr.alloc (.cells #[.int .i64 xp, .int .i64 xo, .bool xf, .slice sa sn sc] 79)).alloc (.cells #[.int .i64 xp, .int .i64 xo, .bool xf, .slice sa2 sn2 sc2] 79)) w.heap.size #[ht.v, hs.v, ho.v, hp.v, .slice ea en ec, .slice da dn_ dc, .slice (some ⟨b, o, none⟩) mn_ mc, .slice wa wn wc] ∧ Bx ((wr.alloc (.cells #[.int .i64 xp, .int .i64 xo, .bool xf, .slice sa sn sc] 79)).alloc (.cells #[.int .i64 xp, .int .i64 xo, .bool xf, .slice sa2 sn2 sc2] 79)) (w.heap.size + 1) #[ht2.v, hs2.v, ho2.v, hp2.v, .slice ea2 en ec2, .slice da2 dn_ dc2, .slice (some ⟨b2, o2, none⟩) mn_ mc2, .slice wa2 wn wc2])) := hid ⟨(HXW.out.1.alloc _).alloc _, (HXW.out.2.alloc _).alloc _⟩
             have HBZ := hid hbz
             have hbp1 : Bx ((wr.alloc (.cells #[.int .i64 xp, .int .i64 xo, .bool xf, .slice sa sn sc] 79)).alloc (.cells #[.int .i64 xp, .int .i64 xo, .bool xf, .slice sa2 sn2 sc2] 79)) wr.heap.size #[.int .i64 xp, .int .i64 xo, .bool xf, .slice sa sn sc] := (Bx.new wr #[.int .i64 xp, .int .i64 xo, .bool xf, .slice sa sn sc] 79).alloc _
             have hbp2 : Bx ((wr.alloc (.cells #[.int .i64 xp, .int .i64 xo, .bool xf, .slice sa sn sc] 79)).alloc (.cells #[.int .i64 xp, .int .i64 xo, .bool xf, .slice sa2 sn2 sc2] 79)) (wr.heap.size + 1) #[.int .i64 xp, .int .i64 xo, .bool xf, .slice sa2 sn2 sc2] := Bx.new1 (by simp)
             have hq : Bx (wr.alloc (.cells #[.int .i64 xp, .int .i64 xo, .bool xf, .slice sa sn sc] 79)) (w.heap.size + 1) #[ht2.v, hs2.v, ho2.v, hp2.v, .slice ea2 en ec2, .slice da2 dn_ dc2, .slice (some ⟨b2, o2, none⟩) mn_ mc2, .slice wa2 wn wc2] := HXW.out.2.alloc _
             have g0 := cellA (.cells #[.int .i64 xp, .int .i64 xo, .bool xf, .slice sa sn sc] 79) f0
             have g1 := cellA (.cells #[.int .i64 xp, .int .i64 xo, .bool xf, .slice sa sn sc] 79) f1
             have g2 := cellA (.cells #[.int .i64 xp, .int .i64 xo, .bool xf, .slice sa sn sc] 79) f2
             have g3 := cellA (.cells #[.int .i64 xp, .int .i64 xo, .bool xf, .slice sa sn sc] 79) f3
             have hcp := hbp1.1; have hlp := hbp1.2.2; have hcq := hbp2.1; have hlq := hbp2.2.2; have hcr := hq.1; have hlr := hq.2.2
             clear hrx hry hbz hbp1 hbp2 hq f0 f1 f2 f3
             go_wp2_with fail
             refine HSQ.out.mono ?_
             rintro e w5 ⟨rfl, hb⟩
             have HXY := hid (keep2 HXZ.out hb); have HBY := hid (HBZ.out.trans (hb.mono HBZ.out.size))
             clear hb hcp hlp hcq hlq hcr hlr e0 g0 e1 g1 e2 g2 e3 g3
             go_wp2_with fail
             go_roundw
             case rel => exact ⟨k + 1, by omega, by go_num, HBY.out, HXY.out⟩
             case measure => simp [RowKit.intOf]; omega
           · obtain rfl : mn_ = k := by omega
             have hcx := HXW.out.1.1; have hlx := HXW.out.1.2.2; have hcy := HXW.out.2.1; have hly := HXW.out.2.2.2
             go_wp2_with fail
             clear hcx hlx hcy hly
             go_loopw [169] (fun i wr => ∃ k : Nat, k ≤ wn ∧ i = .int .i64 k ∧ Below w.heap.size w wr ∧ Bx wr w.heap.size #[ht.v, hs.v, ho.v, hp.v, .slice ea en ec, .slice da dn_ dc, .slice ma mn_ mc, .slice wa wn wc] ∧ Bx wr (w.heap.size + 1) #[ht2.v, hs2.v, ho2.v, hp2.v, .slice ea2 en ec2, .slice da2 dn_ dc2, .slice ma2 mn_ mc2, .slice wa2 wn wc2]) (fun i _ => wn - (RowKit.intOf i).toNat)
             case atStart => exact ⟨0, Nat.zero_le _, rfl, HBW.out, HXW.out.1, HXW.out.2⟩
             case round =>
               obtain ⟨k, hk, rfl, hbw, hxw⟩ := hrel
               have HBW := hid hbw; have HXW := hid hxw
               clear hbw hxw
               by_cases hlt : k < wn
               · obtain ⟨x, b, o, hx, rfl, hc⟩ := (HD.out.2.2.2.1.below HBW.out rfl).at_ hlt
                 obtain ⟨y, b2, o2, hy, rfl, hd⟩ := (HD2.out.2.2.2.1.below HBW.out rfl).at_ hlt
                 rw [hx] at hy
                 injection hy with hy
                 subst hy
                 have e0 := hc 0 _ rfl; have f0 := hd 0 _ rfl
                 have e1 := hc 1 _ rfl; have f1 := hd 1 _ rfl
                 simp only [Nat.add_zero] at e0 f0
                 have hew := fun W => eqInWa x x W
                 simp only [decide_eq_true] at hew
                 have HES := hid (⟨e0, e1, f0, f1⟩ : _ ∧ _ ∧ _ ∧ _)
                 clear hx hc hd
                 obtain ⟨xs, xb⟩ := x
                 go_wp2_with fail
                 clear e0 e1 f0 f1
                 refine wp_region_ordC 99 [(0, 0), (1, 0), (2, 0), (3, 0), (4, 0), (5, 0), (6, 0), (7, 0), (8, 0), (9, 0), (10, 0)] (fun _ => True) (fun W' => (Bx W' w.heap.size #[ht.v, hs.v, ho.v, hp.v, .slice ea en ec, .slice da dn_ dc, .slice ma mn_ mc, .slice (some ⟨b, o, none⟩) wn wc] ∧ Bx W' (w.heap.size + 1) #[ht2.v, hs2.v, ho2.v, hp2.v, .slice ea2 en ec2, .slice da2 dn_ dc2, .slice ma2 mn_ mc2, .slice (some ⟨b2, o2, none⟩) wn wc2]) ∧ W'.cell? ⟨b, o + k * 2, none⟩ = some (.int .i64 xs) ∧ W'.cell? ⟨b, o + k * 2 + 1, none⟩ = some (.int .i64 xb) ∧ W'.cell? ⟨b2, o2 + k * 2, none⟩ = some (.int .i64 xs) ∧ W'.cell? ⟨b2, o2 + k * 2 + 1, none⟩ = some (.int .i64 xb)) (by kernel_rfl) (by kernel_rfl) (trivial) (⟨HXW.out, HES.out⟩) ?_
                 repeat ((first | refine ordC_skip rfl rfl ?_ | refine ordC_skip1 rfl rfl ?_ | ((first | refine ordC_q rfl rfl ?_ | refine ordC_p rfl rfl ?_); apply Exists.intro; refine ⟨fun wS hS => ?_, ?_⟩; (go_simp; try with_reducible rfl))); simp only [Act.put, List.setIfInBounds_toArray, List.set_cons_zero, List.set_cons_succ])
                 refine ordC_nil ?_
                 go_wp2_with fail
                 go_roundw
                 case rel => exact ⟨k + 1, by omega, by go_num, HBW.out.trans ((Below.refl _ _).drew.mono HBW.out.size), HXW.out.1.drew, HXW.out.2.drew⟩
                 case measure => simp [RowKit.intOf]; omega
               · obtain rfl : wn = k := by omega
                 have hcx := HXW.out.1.1; have hlx := HXW.out.1.2.2; have hcy := HXW.out.2.1; have hly := HXW.out.2.2.2
                 go_wp2_with fail
                 go_ret
                 exact ⟨rfl, HBW.out⟩
end Yd
