import Derived.Test.YthkpjdgmpjhhmaaGreatDoorSpoken4
import Derived.Test.YthkpjdgmpjhhmaaGreatDoorGround
import Derived.Test.YthkpjdgmpjhhmaaGreatDoorSpokenB
import Derived.IntWalk
import Derived.Test.YthkpjdgmpjhhmaaGreatDoorProg
set_option maxRecDepth 200000
set_option maxHeartbeats 8000000
namespace Yd
open Go Go.RowKit Go.Proofs

attribute [local go_sem] Oper.semAt_some

theorem spoken_fn (p : Addr) (w : World) : Calls Tryz.prog 60 #[.pointer (some p)] w fun e w' =>
   e = .returned (.func (.func 108) #[] #[.pointer (some ⟨w.heap.size, 0, none⟩)]) ∧ w' = w.alloc (.cells #[.pointer (some p)] 125) := by
 go_enter Tryz.func60, Tryz.ntmps60
 go_wp2_with fail
 go_ret
 exact ⟨rfl, rfl⟩
theorem call_spoken1 : ∀ args w, (callFunc 108 args).run Tryz.prog w = .ok (.enter 108 args) w := enters_of Tryz.func108 (by kernel_rfl) rfl

@[reducible] def cells4 (m : Nat → Int) : Array Value := #[.int .i64 (m 0), .int .i64 (m 1), .int .i64 (m 2), .int .i64 (m 3)]
theorem cells4_at (m : Nat → Int) {s : Nat} (hs : s < 4) : (cells4 m)[s]? = some (.int .i64 (m s)) := by
 match s, hs with
 | 0, _ => rfl
 | 1, _ => rfl
 | 2, _ => rfl
 | 3, _ => rfl
theorem Bx.set4 {X : World} {b : Nat} {m : Nat → Int} (h : Bx X b (cells4 m)) {s : Nat} (hs : s < 4) (v : Int) : Bx (X.setCell ⟨b, s, none⟩ (.int .i64 v)) b (cells4 fun i => if i = s then v else m i) := by
 refine ⟨fun i => ?_, fun i => by rw [World.frozen?_setCell]; exact h.2.1 i, by have := h.2.2; simpa [World.setCell] using this⟩
 by_cases hi : i = s
 · subst hi
   rw [World.cell?_setCell_same' _ _ _ (by rw [h.1 i, cells4_at m hs]; rfl), cells4_at _ hs, if_pos rfl]
 · rw [World.cell?_setCell_other _ _ _ _ (fun e => by cases e; exact hi rfl), h.1 i]
   rcases Nat.lt_or_ge i 4 with h4 | h4
   · rw [cells4_at m h4, cells4_at _ h4, if_neg hi]
   · rw [Array.getElem?_eq_none (by simpa using h4), Array.getElem?_eq_none (by simpa using h4)]
theorem Bx.putObj {X : World} {b : Nat} {cs : Array Value} (h : Bx X b cs) {l : Nat} (o : Obj) (hl : b ≠ l) : Bx (X.putObj l o) b cs := (Same.putObj (A := fun i => i ≠ l) X o (by simp)).bx h hl
theorem Deep.below {w w' : World} {h : HC} {es : List EvC} {ds : List OrC} {ms : List MaC} {qs : List Wa} {scan : EvC → List Sn} {dn : OrC → List Int} {mn : MaC → List Int} (hd : Deep w h es ds ms qs scan dn mn) {B : Nat}
   (hb : Below B w w') (hB : B = w.heap.size) : Deep w' h es ds ms qs scan dn mn :=
 ⟨hd.1.below hb hB, hd.2.1.below hb hB, hd.2.2.1.below hb hB, hd.2.2.2.1.below hb hB, fun x hx => (hd.2.2.2.2.1 x hx).below hb hB, fun x hx => (hd.2.2.2.2.2.1 x hx).below hb hB, fun x hx => (hd.2.2.2.2.2.2 x hx).below hb hB⟩
theorem max2 (a b : Int) (w : World) : (Builtin.max_ #[3, 3] 3 #[.int .i64 a, .int .i64 b]).run Tryz.prog w = .ok (.int .i64 (if b > a then b else a)) w := by
 simp [Builtin.max_, Builtin.max2]

def checkB (h : HC) (nl : Nat → List Bs) (es : List EvC) (ds : List OrC) (ms : List MaC) (qs : List Wa) (scan : EvC → List Sn) (dn : OrC → List Int) (mn : MaC → List Int) : Bool :=
 shapedB h nl es ds ms qs scan dn mn && (numF (spokenL es ds ms qs scan dn mn)).2 && (List.range 4).all (fun i => decide ((numF (spokenL es ds ms qs scan dn mn)).1 i = (h.nm i).n))
def checkE (b : Bool) : Int := if b = true then 0 else 210

theorem check_any (h : HC) (nl : Nat → List Bs) (es : List EvC) (ds : List OrC) (ms : List MaC) (qs : List Wa) (scan : EvC → List Sn) (dn : OrC → List Int) (mn : MaC → List Int) (w : World) (hg : GlobH w)
   (hn : ∀ i, i < 4 → Row w 1 encStr (h.nm i).a (h.nm i).n (h.nm i).c (nl i)) (hd : Deep w h es ds ms qs scan dn mn) :
   Calls Tryz.prog 33 #[valH h] w (Ret (.int .i64 (checkE (checkB h nl es ds ms qs scan dn mn))) w) := by
 refine (callsIn_wide (n := 3)).1 ?_
 refine callsIn_of_wp_marks Tryz.func33 rfl trivial ?_ rfl
 simp only [Tryz.ntmps33, List.size_toArray, List.length_cons, List.length_nil, Nat.reduceAdd, Nat.reduceSub, Array.replicate_succ, Array.replicate_zero, List.push_toArray, List.append_toArray, List.nil_append, List.cons_append]
 refine wpIn_wide.2 ?_
 obtain ⟨S, hS⟩ : ∃ S : Bool, S = shapedB h nl es ds ms qs scan dn mn := ⟨_, rfl⟩
 obtain ⟨C, hC⟩ : ∃ C : Bool, C = checkB h nl es ds ms qs scan dn mn := ⟨_, rfl⟩
 obtain ⟨xs, hxs⟩ : ∃ xs, xs = spokenL es ds ms qs scan dn mn := ⟨_, rfl⟩
 rw [← hC]
 have HC : Hid (C = (S && (numF xs).2 && (List.range 4).all (fun i => decide ((numF xs).1 i = (h.nm i).n)))) := by rw [hC, hS, hxs]; exact hid rfl
 have HNUM : Hid (S = true → ∀ x ∈ xs, numOk x) := fun hh => by rw [hxs]; exact spoken_ok (by rw [← hS]; exact hh) (fun i hi => (hn i hi).len)
 have HXS := hid hxs
 have hb0 : Below w.heap.size w ((w.alloc (.cells (cellsH h) 28)).alloc (.cells #[.int .i64 0] 32)) := ((Below.refl _ _).alloc (Nat.le_refl _) _).alloc (by simp) _
 have HSH := hid (shaped_any h nl es ds ms qs scan dn mn _ (hg.below hb0) (fun i hi => (hn i hi).below hb0 rfl) (hd.below hb0 rfl))
 rw [← hS] at HSH
 have HBX := hid ((Bx.new w (cellsH h) 28).alloc (.cells #[.int .i64 0] 32))
 have hbr := Bx.new (w.alloc (.cells (cellsH h) 28)) #[.int .i64 0] 32
 rw [World.size_alloc] at hbr
 have HBR := hid hbr
 have HB0 := hid hb0; have HD := hid hd
 clear hC hS hxs hb0 hbr hd hg hn
 go_wp2_with fail
 refine HSH.out.mono ?_
 rintro e w1 ⟨rfl, hb1⟩
 have HB1 := hid (HB0.out.trans (hb1.mono HB0.out.size))
 have HX1 := hid (HBX.out.keep hb1)
 have HR1 := hid (HBR.out.keep hb1)
 have hbx1 := HX1.out.1; have hbr1 := HR1.out.1; have hfr1 := HR1.out.2.1; have hlr1 := HR1.out.2.2
 clear hb1
 cases S
 · go_wp2_with fail
   have hc := (HR1.out.set1 (.int .i64 210)).1 0
   refine ⟨.int .i64 210, by simp [results, Tryz.results33, go_sem, hc], ?_, HB1.out.setCell (p := ⟨w.heap.size + 1, 0, none⟩) (by simp) _⟩
   rw [HC.out]; rfl
 go_wp2_with (go_at_call 60; refine (spoken_fn _ _).mono ?_; rintro e w' ⟨rfl, rfl⟩)
 have hz1 : w.heap.size + 2 ≤ w1.heap.size := by omega
 have hVs : ((w1.alloc (.cells #[.int .i64 0, .int .i64 0, .int .i64 0, .int .i64 0] 110)).alloc (.cells #[.pointer (some ⟨w.heap.size, 0, none⟩)] 125)).heap.size = w1.heap.size + 2 := by simp
 have hVk : Below w1.heap.size w1 ((w1.alloc (.cells #[.int .i64 0, .int .i64 0, .int .i64 0, .int .i64 0] 110)).alloc (.cells #[.pointer (some ⟨w.heap.size, 0, none⟩)] 125)) :=
   ((Below.refl _ _).alloc (Nat.le_refl _) _).alloc (by simp) _
 have hVM : Bx ((w1.alloc (.cells #[.int .i64 0, .int .i64 0, .int .i64 0, .int .i64 0] 110)).alloc (.cells #[.pointer (some ⟨w.heap.size, 0, none⟩)] 125)) w1.heap.size (cells4 fun _ => 0) := (Bx.new w1 _ _).alloc _
 have hVP : Bx ((w1.alloc (.cells #[.int .i64 0, .int .i64 0, .int .i64 0, .int .i64 0] 110)).alloc (.cells #[.pointer (some ⟨w.heap.size, 0, none⟩)] 125)) (w1.heap.size + 1) #[.pointer (some ⟨w.heap.size, 0, none⟩)] := by
   have := Bx.new (w1.alloc (.cells #[.int .i64 0, .int .i64 0, .int .i64 0, .int .i64 0] 110)) #[.pointer (some ⟨w.heap.size, 0, none⟩)] 125
   rw [World.size_alloc] at this; exact this
 clear hbx1 hbr1 hfr1 hlr1 HBX HBR HSH
 revert hVs hVk hVM hVP
 generalize (w1.alloc (.cells #[.int .i64 0, .int .i64 0, .int .i64 0, .int .i64 0] 110)).alloc (.cells #[.pointer (some ⟨w.heap.size, 0, none⟩)] 125) = V
 intro hVs hVk hVM hVP
 have hVb := HB1.out.trans (hVk.mono HB1.out.size)
 have hVH := HX1.out.keep hVk
 have hVR := HR1.out.keep hVk
 rw [HXS.out] at HC HNUM
 refine wpIn_wide.1 (wpIn_iter (n := 3) (gf := 108) (lb := #[.pointer (some ⟨w1.heap.size + 1, 0, none⟩)]) (by simp [go_sem]) call_spoken1
   (Rep := RepNum w.heap.size) (k := 3) (D := fun i => i < w.heap.size ∨ i = w.heap.size ∨ i = w1.heap.size + 1 ∨ (w1.heap.size + 4 ≤ i ∧ i < w1.heap.size + 7)) (xs := spokenL es ds ms qs scan dn mn)
   (fun W hW hWs => spoken_iter h es ds ms qs scan dn mn w.heap.size (w1.heap.size + 1) _ w W HD.out (hVb.trans (hW.mono hVb.size)) (hVH.keep hW) (hVP.keep hW) (fun i hi => .inl hi) (.inr (.inl rfl)) (.inr (.inr (.inl rfl)))
     (fun i h1 h2 => .inr (.inr (.inr ⟨by omega, by omega⟩)))) (by omega)
   (fun x args X hx => by obtain ⟨_, _, _, rfl, _⟩ := hx; rfl)
   (fun pre X => Below w.heap.size w X ∧ Bx X w.heap.size (cellsH h) ∧ Bx X (w.heap.size + 1) #[.int .i64 0] ∧ Bx X w1.heap.size (cells4 (numF pre).1) ∧ (numF pre).2 = true)
   (fun c pre X => c = .ret ∧ Below w.heap.size w X ∧ Bx X (w.heap.size + 1) #[.int .i64 210] ∧ (numF pre).2 = false)
   (fun pre X Y hh k => ⟨k.below hh.1 (fun i hi => .inl (by omega)) hh.1.size, k.bx hh.2.1 (.inl (by omega)), k.bx hh.2.2.1 (.inl (by omega)), k.bx hh.2.2.2.1 (.inl (by omega)), hh.2.2.2.2⟩)
   (fun c pre X Y hh k => ⟨hh.1, k.below hh.2.1 (fun i hi => .inl (by omega)) hh.2.1.size, k.bx hh.2.2.1 (.inl (by omega)), hh.2.2.2⟩)
   ⟨hVb, hVH, hVR, hVM, rfl⟩ ?round ?done ?stop)
 case stop =>
   rintro c pre X hpre ⟨rfl, hb, hr, hno⟩ hdef
   refine wpIn_wide.2 ?_
   go_wp2_with fail
   have hp := hr.putObj (l := V.heap.size) (.deferred none) (by omega)
   have hc := hp.1 0
   refine ⟨by simp, .inl ⟨_, _, rfl, run_takeDeferred hdef, ?_⟩⟩
   refine ⟨.int .i64 210, by simp [results, Tryz.results33, go_sem, hc], ?_, (Same.putObj (A := fun i => i < w.heap.size) X _ (by omega)).below hb (fun i hi => hi) hb.size⟩
   rw [HC.out, numF_no hpre hno]; rfl
 case round =>
   rintro pre ⟨x1, x2⟩ args X ⟨hb, hH, hR, hM, hno⟩ hpre ⟨b, o, hlt, rfl, hc⟩ hsz m
   simp only at hc
   have hmem : (x1, x2) ∈ spokenL es ds ms qs scan dn mn := hpre.subset (by simp)
   obtain ⟨⟨hx0, hx4⟩, hn0, hn3⟩ := HNUM.out trivial _ hmem
   simp only at hx0 hx4 hn0 hn3
   obtain ⟨s, rfl⟩ : ∃ s : Nat, x1 = s := ⟨x1.toNat, by omega⟩
   have hs4 : s < 4 := by omega
   have hmem2 := hmem
   gi_wp2
   refine ⟨Below.refl _ _, fun X2 hk => ?_⟩
   have hxs2 : b < X.heap.size := by have := hb.size; omega
   have hc2 : X2.cell? ⟨b, o, none⟩ = some (.int .i64 x2) := (World.cell?_of_block (a := ⟨b, o, none⟩) (hk.block b (by simp; omega) hxs2)).trans hc
   have hb2 : Below w.heap.size w X2 := hk.below hb (fun i hi => by simp; omega) hb.size
   have hH2 := hk.bx hH (by simp; omega)
   have hR2 := hk.bx hR (by simp; omega)
   have hM2 := hk.bx hM (by simp; omega)
   have hcm : X2.cell? ⟨w1.heap.size, s, none⟩ = some (.int .i64 ((numF pre).1 s)) := (hM2.1 s).trans (cells4_at _ hs4)
   have hz2 : V.heap.size + 2 ≤ X2.heap.size := by have := hk.size; omega
   have HSN := hid (numF_snoc pre (((s : Nat) : Int), x2))
   obtain ⟨mm, hmm⟩ : ∃ mm : Int, mm = (numF pre).1 s := ⟨_, rfl⟩
   rw [← hmm] at hcm
   have HMM := hid hmm
   have HB2 := hid hb2; have HH2 := hid hH2; have HR2 := hid hR2; have HM2 := hid hM2; have HNO := hid hno; have HP := hid hpre; have HMEM := hid hmem
   clear hmm hb2 hH2 hR2 hM2 hno hpre hmem hmem2 hb hH hR hM hk hc
   have hmx := max2 mm (x2 + 1)
   by_cases hgt : mm < x2
   · have hfr := HR2.out.2.1; have hcr := HR2.out.1
     gi_wp2
     refine wpIn_region_ordC 7 [(0, 0), (1, 0), (2, 0), (3, 0), (4, 0), (5, 0), (6, 0)] (fun _ => True) (fun W' => W'.cell? ⟨b, o, none⟩ = some (.int .i64 x2) ∧ W'.cell? ⟨w1.heap.size, s, none⟩ = some (.int .i64 mm)) (by kernel_rfl) (by kernel_rfl) (by kernel_rfl) (trivial) (⟨hc2, hcm⟩) ?_
     repeat ((first | refine ordC_skip rfl rfl ?_ | refine ordC_skip1 rfl rfl ?_ | ((first | refine ordC_q rfl rfl ?_ | refine ordC_p rfl rfl ?_); apply Exists.intro; refine ⟨fun wS hS => ?_, ?_⟩; (go_simp; try with_reducible rfl))); simp only [Act.put, List.setIfInBounds_toArray, List.set_cons_zero, List.set_cons_succ])
     refine ordC_nil ?_
     gi_wp2
     exact ⟨⟨Below.heap_setCell _ _ _ _ (by simp; omega), Below.heap_setCell _ _ _ _ (by simp; omega)⟩, KeepOn.setCell X2 (w.heap.size + 1) 0 _ (by simp; omega), rfl, (HB2.out.setCell (p := ⟨w.heap.size + 1, 0, none⟩) (by simp) _).drew,
       (HR2.out.set1 _).drew, by rw [HSN.out]; exact numS_no (by simp only [Int.toNat_natCast]; rw [← HMM.out]; omega)⟩
   · have hfm := HM2.out.2.1
     have hle : x2 ≤ (numF pre).1 s := by rw [← HMM.out]; omega
     have hfe : (fun i => if i = s then (if x2 + 1 > (numF pre).1 i then x2 + 1 else (numF pre).1 i) else (numF pre).1 i) = (fun i => if i = s then (if x2 + 1 > mm then x2 + 1 else mm) else (numF pre).1 i) := by
       funext i
       by_cases hi : i = s
       · subst hi; rw [HMM.out]
       · simp [hi]
     have HNEW := hid (show numF (pre ++ [((s : Int), x2)]) = (fun i => if i = s then (if x2 + 1 > mm then x2 + 1 else mm) else (numF pre).1 i, true) by rw [HSN.out, ← hfe]; exact numS_yes HNO.out hle)
     clear hfe hle
     gi_wp2
     refine wpIn_region_ordC 7 [(0, 0), (1, 0), (2, 0), (3, 0), (4, 0), (5, 0), (6, 0)] (fun _ => True) (fun W' => W'.cell? ⟨b, o, none⟩ = some (.int .i64 x2) ∧ W'.cell? ⟨w1.heap.size, s, none⟩ = some (.int .i64 mm)) (by kernel_rfl) (by kernel_rfl) (by kernel_rfl) (trivial) (⟨hc2, hcm⟩) ?_
     repeat ((first | refine ordC_skip rfl rfl ?_ | refine ordC_skip1 rfl rfl ?_ | ((first | refine ordC_q rfl rfl ?_ | refine ordC_p rfl rfl ?_); apply Exists.intro; refine ⟨fun wS hS => ?_, ?_⟩; (go_simp; try with_reducible rfl))); simp only [Act.put, List.setIfInBounds_toArray, List.set_cons_zero, List.set_cons_succ])
     refine ordC_nil ?_
     gi_wp2
     refine wpIn_region_ordC 10 [(0, 0), (1, 0), (2, 0), (3, 0), (4, 0), (5, 0), (6, 0), (7, 0), (8, 0), (9, 0), (10, 2)] (fun _ => True) (fun W' => W'.cell? ⟨b, o, none⟩ = some (.int .i64 x2) ∧ W'.cell? ⟨w1.heap.size, s, none⟩ = some (.int .i64 mm)) (by kernel_rfl) (by kernel_rfl) (by kernel_rfl) (trivial) (⟨hc2, hcm⟩) ?_
     repeat ((first | refine ordC_skip rfl rfl ?_ | refine ordC_skip1 rfl rfl ?_ | ((first | refine ordC_q rfl rfl ?_ | refine ordC_p rfl rfl ?_); apply Exists.intro; refine ⟨fun wS hS => ?_, ?_⟩; (go_simp; try with_reducible rfl))); simp only [Act.put, List.setIfInBounds_toArray, List.set_cons_zero, List.set_cons_succ])
     refine ordC_m rfl rfl rfl (fun K hK => ?_)
     go_simp
     refine hK _ _ trivial ?_
     clear hK K
     refine ordC_nil ?_
     gi_wp2
     refine ⟨⟨Below.heap_setCell _ _ _ _ (by simp; omega), Below.heap_setCell _ _ _ _ (by simp; omega)⟩, KeepOn.setCell X2 w1.heap.size s _ (by simp; omega), (HB2.out.setCell (p := ⟨w1.heap.size, s, none⟩) (by simp; omega) _).drew.drew,
       (HH2.out.setOther _ _ _ (by omega)).drew.drew, (HR2.out.setOther _ _ _ (by omega)).drew.drew, ?_, by rw [HNEW.out]⟩
     have hval : max mm (IntKind.i64.wrap (x2 + 1)) = (if x2 + 1 > mm then x2 + 1 else mm) := by
       rw [IntWalk.i64_in _ (by omega)]; split <;> omega
     rw [HNEW.out, hval]
     exact ((HM2.out.set4 hs4 _).drew).drew
 case done =>
   rintro X ⟨hb, hH, hR, hM, hno⟩ hdef
   rw [hVs] at hdef
   obtain ⟨M, hMM⟩ : ∃ M, M = (numF (spokenL es ds ms qs scan dn mn)).1 := ⟨_, rfl⟩
   rw [← hMM] at hM HC
   rw [hno] at HC
   have hbx := hH.1
   have HH := hid hH; have HR := hid hR; have HM := hid hM; have HB := hid hb; have HDEF := hid hdef
   clear hH hR hM hb hdef hMM hno hVk hVM hVP hVb hVH hVR
   simp only [Exit.inBlock, Exit.then]
   go_wp2_with (go_at_call 61; refine (names_any h _).mono ?_; rintro e w2 ⟨rfl, hb2⟩)
   have HB2 := hid (HB.out.trans (hb2.mono HB.out.size))
   have HR2 := hid (HR.out.keep hb2); have HM2 := hid (HM.out.keep hb2)
   have hlm := HM.out.2.2
   have HDEF2 := hid ((hb2.block _ (Array.getElem?_eq_some_iff.1 HDEF.out).1).trans HDEF.out)
   have hlV := (Array.getElem?_eq_some_iff.1 HDEF2.out).1
   clear hb2 hbx
   go_loop [33] (fun i => ∃ k : Nat, k ≤ 4 ∧ i = .int .i64 k ∧ (List.range k).all (fun i => decide (M i = (h.nm i).n)) = true) (fun i => 4 - (RowKit.intOf i).toNat)
   case atStart => exact ⟨0, by omega, rfl, rfl⟩
   case round =>
     obtain ⟨k, hk, rfl, hall⟩ := hrel
     have HALL := hid hall; clear hall
     by_cases hlt : k < 4
     · have hix := fun W => ix_names h k hlt W
       have hcm := (HM2.out.1 k).trans (cells4_at M hlt)
       have hstep : Hid ((List.range (k + 1)).all (fun i => decide (M i = (h.nm i).n)) = decide (M k = (h.nm k).n)) := by
         rw [List.range_succ, List.all_append, HALL.out]; exact hid (by simp)
       have hsub : Hid (M k ≠ (h.nm k).n → (List.range 4).all (fun i => decide (M i = (h.nm i).n)) = false) := hid (fun hne => by
         rw [List.all_eq_false]; exact ⟨k, by simpa using hlt, by simpa using hne⟩)
       obtain ⟨sl, hsl⟩ : ∃ sl, sl = h.nm k := ⟨_, rfl⟩
       obtain ⟨mk, hmk⟩ : ∃ mk : Int, mk = M k := ⟨_, rfl⟩
       rw [← hsl] at hix hstep hsub
       rw [← hmk] at hcm hstep hsub
       obtain ⟨sa, sn, sc⟩ := sl
       clear hsl hmk
       by_cases hq : mk = (sn : Int)
       · have hq1 : (mk == (sn : Int)) = true := beq_iff_eq.2 hq
         have hq2 : (mk != (sn : Int)) = false := by simp [hq]
         have HQ := hid hq; clear hq
         go_wp2_with fail
         go_round
         case rel => exact ⟨k + 1, by omega, by go_num, by rw [hstep.out]; simpa using HQ.out⟩
         case measure => simp [RowKit.intOf]; omega
       · have hq1 : (mk == (sn : Int)) = false := beq_eq_false_iff_ne.2 hq
         have hq2 : (mk != (sn : Int)) = true := by simp [hq]
         have HQ := hid hq; clear hq
         have hfr := HR2.out.2.1; have hcr := HR2.out.1; have hlr := HR2.out.2.2
         go_wp2_with fail
         have hp := (HR2.out.set1 (.int .i64 210)).putObj (l := w1.heap.size + 2) (.deferred none) (by omega)
         have hc := hp.1 0
         have hdf : (w2.setCell ⟨w.heap.size + 1, 0, none⟩ (.int .i64 210)).heap[w1.heap.size + 2]? = some (.deferred (some [])) := (Below.heap_setCell _ _ _ _ (by simp; omega)).trans HDEF2.out
         refine ⟨by simp, .inl ⟨_, _, rfl, run_takeDeferred hdf, ?_⟩⟩
         refine ⟨.int .i64 210, by simp [results, Tryz.results33, go_sem, hc], ?_, (Same.putObj (A := fun i => i < w.heap.size) _ _ (by omega)).below (HB2.out.setCell (p := ⟨w.heap.size + 1, 0, none⟩) (by simp) _) (fun i hi => hi) (by simp [World.setCell]; omega)⟩
         rw [HC.out, hsub.out HQ.out]; rfl
     · obtain rfl : k = 4 := by omega
       have hfr := HR2.out.2.1; have hcr := HR2.out.1; have hlr := HR2.out.2.2
       go_wp2_with fail
       have hp := (HR2.out.set1 (.int .i64 0)).putObj (l := w1.heap.size + 2) (.deferred none) (by omega)
       have hc := hp.1 0
       have hdf : (w2.setCell ⟨w.heap.size + 1, 0, none⟩ (.int .i64 0)).heap[w1.heap.size + 2]? = some (.deferred (some [])) := (Below.heap_setCell _ _ _ _ (by simp; omega)).trans HDEF2.out
       refine ⟨by simp, .inl ⟨_, _, rfl, run_takeDeferred hdf, ?_⟩⟩
       refine ⟨.int .i64 0, by simp [results, Tryz.results33, go_sem, hc], ?_, (Same.putObj (A := fun i => i < w.heap.size) _ _ (by omega)).below (HB2.out.setCell (p := ⟨w.heap.size + 1, 0, none⟩) (by simp) _) (fun i hi => hi) (by simp [World.setCell]; omega)⟩
       rw [HC.out, HALL.out]; rfl
end Yd
