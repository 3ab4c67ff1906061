import Derived.Test.YthkpjdgmpjhhmaaGreatDoorLawOwn
import Derived.Test.YthkpjdgmpjhhmaaGreatDoorPtext2
import Derived.Test.YthkpjdgmpjhhmaaGreatDoorProg
namespace Yd
open Go Go.RowKit Go.Proofs
attribute [local go_sem] Oper.semAt_some

theorem bld_below {bb : Nat} {bs : List Value} {X Y : World} (h : Lib.IsBuilderF 38 5 bb bb bs X) (hb : Below X.heap.size X Y) : Lib.IsBuilderF 38 5 bb bb bs Y := by
  have hk : ∀ p bs, Lib.BuilderAtF 38 5 bb bb p bs X → Lib.BuilderAtF 38 5 bb bb p bs Y := by
    rintro p bs ⟨hB, v, hb', hown, hne⟩
    exact ⟨hB, v, (hb.block _ (Array.getElem?_eq_some_iff.1 hb').1).trans hb', ownsRowF_block hown (fun g hg => hb.block g (hown.lt g hg).2), hne⟩
  exact h.imp (hk _ _) (hk _ _)
theorem bld_lt {bb : Nat} {bs : List Value} {X : World} (h : Lib.IsBuilderF 38 5 bb bb bs X) : bb < X.heap.size := by
  rcases h with ⟨_, v, hb, _⟩ | ⟨_, v, hb, _⟩ <;> exact (Array.getElem?_eq_some_iff.1 hb).1
theorem textA_len : ∀ (ls : List LnS), (∀ x ∈ ls, lineOk x) → (textA ls).length ≤ ls.length * 300000
  | [], _ => by simp [textA]
  | s :: ls, h => by
    have h1 := textS_len (h s (by simp))
    have h2 := textA_len ls (fun x hx => h x (by simp [hx]))
    simp only [textA, List.flatMap_cons, List.length_append, List.length_cons] at h2 ⊢
    omega
theorem lines_kind {nl : Nat → List Bs} {es : List EvC} {ds : List OrC} {ms : List MaC} {qs : List Wa} {scan : EvC → List Sn} {dn : OrC → List Int} {mn : MaC → List Int} {i : Nat} {e : EvC} {s : LnS} (he : es[i]? = some e) (hs : (linesS nl es ds ms qs scan dn mn)[i]? = some s) :
    s.kind = e.kind := by
  have hi : i < es.length := (List.getElem?_eq_some_iff.1 he).1
  rw [linesS, List.append_assoc, List.append_assoc, List.getElem?_append_left (by rw [List.length_map]; exact hi), List.getElem?_map, he] at hs
  injection hs with hs
  rw [← hs]
  show (eventS (nl 0) (nl 1) (nl 2) (nl 3) e (scan e)).kind = e.kind
  unfold eventS
  repeat' split
  all_goals rfl
set_option maxRecDepth 100000 in
set_option maxHeartbeats 4000000 in
theorem law_lines (h : HC) (nl : Nat → List Bs) (es : List EvC) (ds : List OrC) (ms : List MaC) (qs : List Wa) (scan : EvC → List Sn) (dn : OrC → List Int) (mn : MaC → List Int) (w : World) (hg : GlobL w)
    (hn : ∀ i, i < 4 → Row w 1 encStr (h.nm i).a (h.nm i).n (h.nm i).c (nl i)) (hd : Deep w h es ds ms qs scan dn mn) (hB : BulkH nl es ds ms qs scan dn mn)
    (hwk : ∀ W, GlobL W → Calls Tryz.prog 6 #[] W (Ret (.bool true) W)) :
    Calls Tryz.prog 3 #[valH h] w (Ret (.bool true) w) := by
  have hb0 := belowA (Below.refl w.heap.size w) (.cells (cellsH h) 28)
  have HWK := hid (hwk _ (hg.below hb0)); have HB := hid hb0; have HG := hid hg; have HN := hid hn; have HD := hid hd; have HBK := hid hB
  have HX0 := hid (Bx.new w (cellsH h) 28)
  clear hg hn hd hB hwk hb0
  go_enter Tryz.func3, Tryz.ntmps3
  go_wp2_with fail
  refine HWK.out.mono ?_
  rintro e w1 ⟨rfl, hb1⟩
  have HB1 := hid (HB.out.trans (hb1.mono HB.out.size))
  have hx1 := HX0.out.keep hb1
  have hcx := hx1.1; have hfx := hx1.2.1; have hlx := hx1.2.2
  clear hb1 hx1
  go_wp2_with fail
  refine (law_own h nl es ds ms qs scan dn mn w1 (fun i hi => (HN.out i hi).below HB1.out rfl) (HD.out.below HB1.out rfl) HBK.out).mono ?_
  rintro e w2 ⟨h', es', ds', ms', scan', dn', mn', rfl, hd2, hn2, -, -, -, -, -, -, hb2⟩
  have HB2 := hid (HB1.out.trans (hb2.mono HB1.out.size))
  have HD2 := hid hd2; have HN2 := hid hn2
  obtain ⟨nl', hnl⟩ : ∃ nl', nl' = (contOf 120 nl es ds ms qs scan dn mn).nl := ⟨_, rfl⟩
  obtain ⟨qs', hqs⟩ : ∃ qs', qs' = (contOf 120 nl es ds ms qs scan dn mn).Q := ⟨_, rfl⟩
  rw [← hqs] at HD2; rw [← hnl] at HN2
  clear hd2 hn2 hb2 hcx hfx hlx hnl hqs
  go_wp2_with fail
  obtain ⟨ht, hs, ho, hp, ⟨ea, en, ec⟩, ⟨da, dn_, dc⟩, ⟨ma, mn_, mc⟩, ⟨wa, wn, wc⟩⟩ := h'
  have hx3 : Bx (w2.alloc (.cells #[ht.v, hs.v, ho.v, hp.v, .slice ea en ec, .slice da dn_ dc, .slice ma mn_ mc, .slice wa wn wc] 28)) w2.heap.size #[ht.v, hs.v, ho.v, hp.v, .slice ea en ec, .slice da dn_ dc, .slice ma mn_ mc, .slice wa wn wc] := Bx.new1 rfl
  have hb3 := belowA (Below.refl w2.heap.size w2) (.cells #[ht.v, hs.v, ho.v, hp.v, .slice ea en ec, .slice da dn_ dc, .slice ma mn_ mc, .slice wa wn wc] 28)
  have hg3 := HG.out.below ((HB2.out.mono (Nat.le_refl _)).trans (hb3.mono HB2.out.size))
  have hd3 := HD2.out.below hb3 rfl
  have hn3 := fun i hi => (HN2.out i hi).below hb3 rfl
  by_cases hck : checkB ⟨ht, hs, ho, hp, ⟨ea, en, ec⟩, ⟨da, dn_, dc⟩, ⟨ma, mn_, mc⟩, ⟨wa, wn, wc⟩⟩ nl' es' ds' ms' qs' scan' dn' mn' = true
  · have HL := hid (plines_yes _ nl' es' ds' ms' qs' scan' dn' mn' _ hg3.1 hn3 hd3 hck)
    have HX3 := hid hx3; have HB3 := hid (HB2.out.trans (hb3.mono HB2.out.size)); have HCK := hid hck
    clear hx3 hb3 hg3 hd3 hn3 hck
    refine HL.out.mono ?_
    rintro e w4 ⟨la, lc, lcs, rfl, hol, hln, hb4⟩
    have hx4 := HX3.out.keep hb4
    have HB4 := hid (HB3.out.trans (hb4.mono HB3.out.size))
    have HBE := hid (show Below w2.heap.size w2 w4 from (belowA (Below.refl _ _) _).trans (hb4.mono (by simp)))
    have hsh : shapedB ⟨ht, hs, ho, hp, ⟨ea, en, ec⟩, ⟨da, dn_, dc⟩, ⟨ma, mn_, mc⟩, ⟨wa, wn, wc⟩⟩ nl' es' ds' ms' qs' scan' dn' mn' = true := by have := HCK.out; simp only [checkB, Bool.and_eq_true] at this; exact this.1.1
    have hmany : en ≤ 3000 ∧ dn_ ≤ 3000 ∧ mn_ ≤ 3000 ∧ wn ≤ 3000 := by
      have h1 := hsh
      simp only [shapedB, namesB, Bool.and_eq_true] at h1
      exact many_le h1.1.1.1.1.1
    have hL : lcs.length = en + dn_ + mn_ + wn := by
      rw [hln.1]
      have h1 := HD2.out.1.len; have h2 := HD2.out.2.1.len; have h3 := HD2.out.2.2.1.len; have h4 := HD2.out.2.2.2.1.len
      simp only [linesS, List.length_append, List.length_map]
      simp only at h1 h2 h3 h4
      omega
    obtain ⟨n1, n2, n3, n4⟩ := hmany
    have HSH := hid hsh
    have hLI : (lcs.length : Int) = (en : Int) + dn_ + mn_ + wn := by omega
    have hcx := hx4.1; have hfx := hx4.2.1; have hlx := hx4.2.2
    have HOL := hid hol; have HLN := hid hln; have HX4 := hid hx4; have HL1 := hid hL
    clear hol hln hb4 hx4 hsh
    go_wp2_with fail
    go_loopw [46] (fun i wr => ∃ k : Nat, k ≤ lcs.length ∧ i = .int .i64 k ∧ Below w4.heap.size w4 wr ∧ Lib.IsBuilderF 38 5 w4.heap.size w4.heap.size (Lib.byteCells (textA ((linesS nl' es' ds' ms' qs' scan' dn' mn').take k))) wr) (fun i _ => lcs.length - (RowKit.intOf i).toNat)
    case atStart =>
      exact ⟨0, Nat.zero_le _, rfl, belowA (Below.refl _ _) _, .inl ⟨Nat.le_refl _, .slice none 0 0, World.alloc_heap_new w4 _, World.ownsRowF_nil _ _ _ _, fun e => (by cases e)⟩⟩
    case round =>
      obtain ⟨k, hk, rfl, hbw, hbl⟩ := hrel
      have HBW := hid hbw; have HBL := hid hbl
      clear hbw hbl
      by_cases hlt : k < lcs.length
      · obtain ⟨l, b, o, hlk, rfl, hc⟩ := ((HOL.out.row (hc := cInsLn) (by omega)).below HBW.out rfl).at_ hlt
        obtain ⟨s, hsk, hln⟩ := HLN.out.2 k l hlk
        have hmem : s ∈ linesS nl' es' ds' ms' qs' scan' dn' mn' := List.mem_of_getElem? hsk
        have HOK := hid (lines_ok HSH.out (fun i hi => (HN2.out i hi).len) s hmem)
        have HLA := hid (hln.below HBW.out)
        obtain ⟨kd, na, nn, nc, lv, va, vn, vc, fi, bi⟩ := l
        have HKD : Hid (kd = s.kind) := hid hln.1.1
        have h0 := hc 0 _ rfl
        have h1 := hc 1 _ rfl
        have h2 := hc 2 _ rfl
        have h3 := hc 3 _ rfl
        have h4 := hc 4 _ rfl
        have h5 := hc 5 _ rfl
        simp only [Nat.add_zero] at h0
        have hk3 : k < 12000 := by omega
        have HSK := hid hsk
        have HG4 := hid (HG.out.below (HB4.out.trans (HBW.out.mono HB4.out.size)))
        have HXR := hid (HX4.out.keep HBW.out)
        clear hlk hsk hln hmem hc hcx hfx hlx
        go_wp2_with (go_at_call 9; refine (text_all (HLA.out.below (belowA (Below.refl _ _) _)) HOK.out (HG4.out.below (belowA (Below.refl _ _) _))).mono ?_; rintro e X3 ⟨rfl, hb3⟩)
        have HB3' := hid (show Below wr.heap.size wr X3 from (belowA (Below.refl _ _) _).trans (hb3.mono (by simp)))
        have HLX : Hid (Bx X3 wr.heap.size #[.int .i64 kd, .slice na nn nc, .int .i64 lv, .slice va vn vc, .bool fi, .int .i64 bi]) := hid ((Bx.new1 rfl).keep hb3)
        clear hb3 h0 h1 h2 h3 h4 h5
        have HX3b := hid (HXR.out.keep HB3'.out)
        have HLA3 := hid (HLA.out.below HB3'.out)
        have HG3 := hid (HG4.out.below HB3'.out)
        have HBL3 := hid (bld_below HBL.out HB3'.out)
        have HFIN : Hid (∀ X4, Below X3.heap.size X3 X4 → Calls Tryz.prog 11 #[.pointer (some ⟨w4.heap.size, 0, none⟩), .string ⟨(textS s).toArray⟩] X4 fun e w' => (∃ v, e = .returned v) ∧ Below w4.heap.size w4 w' ∧ Lib.IsBuilderF 38 5 w4.heap.size w4.heap.size (Lib.byteCells (textA ((linesS nl' es' ds' ms' qs' scan' dn' mn').take (k + 1)))) w') := by
          refine hid (fun X4 hb => ?_)
          have hbl4 := bld_below HBL3.out hb
          have hlen : (Lib.byteCells (textA ((linesS nl' es' ds' ms' qs' scan' dn' mn').take k))).length + (⟨(textS s).toArray⟩ : ByteArray).size ≤ 140737488355328 := by
            have h1 := textS_len HOK.out
            have h2 := textA_len ((linesS nl' es' ds' ms' qs' scan' dn' mn').take k) (fun x hx => lines_ok HSH.out (fun i hi => (HN2.out i hi).len) x (List.mem_of_mem_take hx))
            rw [Lib.byteCells_length]; simp only [ByteArray.size, List.size_toArray]
            rw [List.length_take] at h2
            have : min k (linesS nl' es' ds' ms' qs' scan' dn' mn').length * 300000 ≤ 12000 * 300000 := Nat.mul_le_mul_right _ (by omega)
            omega
          refine (bld_write w4.heap.size w4.heap.size _ ⟨(textS s).toArray⟩ X4 hbl4 hlen (Nat.le_of_lt (bld_lt hbl4))).mono ?_
          rintro e w' ⟨rfl, hbl', hb', _⟩
          refine ⟨⟨_, rfl⟩, (HBW.out.trans ((HB3'.out.trans (hb.mono HB3'.out.size)).mono HBW.out.size)).trans hb', .inr ?_⟩
          have htx : textA ((linesS nl' es' ds' ms' qs' scan' dn' mn').take (k + 1)) = textA ((linesS nl' es' ds' ms' qs' scan' dn' mn').take k) ++ textS s := by rw [List.take_add_one, HSK.out]; simp [textA]
          rw [htx]
          have hcs : Lib.byteCells (textA ((linesS nl' es' ds' ms' qs' scan' dn' mn').take k)) ++ Lib.strCells ⟨(textS s).toArray⟩ = Lib.byteCells (textA ((linesS nl' es' ds' ms' qs' scan' dn' mn').take k) ++ textS s) := by simp [Lib.byteCells, Lib.strCells]
          rw [← hcs]; exact hbl'
        by_cases hke : k < en
        · obtain ⟨ev, eb, eo, hev, rfl, hec⟩ := HD2.out.1.at_ hke
          have hkd : kd = ev.kind := HKD.out.trans (lines_kind hev HSK.out)
          have hce := hec 0 _ rfl
          simp only [Nat.add_zero] at hce
          rw [← hkd] at hce
          have HCE := hid (bget HBE.out rfl hce)
          clear hev hec hkd hce
          go_wp2_with fail
          have HCE3 := hid (bget HB3'.out rfl (bget HBW.out rfl HCE.out))
          refine wp_region_ord [(0, true), (1, true), (2, true), (3, true), (4, false), (5, true), (6, true), (7, true), (8, true), (9, true), (10, true), (11, true), (12, true), (13, true), (14, true), (15, true), (16, true), (17, true), (18, true), (19, true), (20, true), (21, true), (22, true), (23, true), (24, true)] (fun W' => Bx W' wr.heap.size #[.int .i64 kd, .slice na nn nc, .int .i64 lv, .slice va vn vc, .bool fi, .int .i64 bi] ∧ Bx W' w2.heap.size #[ht.v, hs.v, ho.v, hp.v, .slice (some ⟨eb, eo, none⟩) en ec, .slice da dn_ dc, .slice ma mn_ mc, .slice wa wn wc] ∧ W'.cell? ⟨eb, eo + k * 9, none⟩ = some (.int .i64 kd)) (by kernel_rfl) (by kernel_rfl) (by intro d v c a w h; cases d <;> exact h) (⟨HLX.out, HX3b.out, HCE3.out⟩) ?_
          repeat (first
            | (refine ord_skip rfl rfl ?_; simp only [Act.put, List.setIfInBounds_toArray, List.set_cons_zero, List.set_cons_succ])
            | (refine ord_q rfl rfl ?_; apply Exists.intro; refine ⟨fun wS hS => ?_, ?_⟩; (go_simp; try with_reducible rfl); simp only [Act.put, List.setIfInBounds_toArray, List.set_cons_zero, List.set_cons_succ]))
          refine ord_l rfl rfl (fun K hK => ?_)
          go_simp
          refine (check_all (HLA3.out.below (Below.refl _ _).drew) HOK.out (HG3.out.below (Below.refl _ _).drew)).mono ?_
          rintro en_ X4 ⟨rfl, hb4⟩
          have HBX := hid (show Below X3.heap.size X3 X4 from (Below.refl _ _).drew.trans hb4)
          refine hK _ _ ⟨HLX.out.keep HBX.out, HX3b.out.keep HBX.out, bget HBX.out rfl HCE3.out⟩ ?_
          clear hK K hb4
          repeat (first
            | (refine ord_skip rfl rfl ?_; simp only [Act.put, List.setIfInBounds_toArray, List.set_cons_zero, List.set_cons_succ])
            | (refine ord_q rfl rfl ?_; apply Exists.intro; refine ⟨fun wS hS => ?_, ?_⟩; (go_simp; try with_reducible rfl); simp only [Act.put, List.setIfInBounds_toArray, List.set_cons_zero, List.set_cons_succ]))
          refine ord_nil ?_
          go_wp2_with (go_at_call 11; refine (HFIN.out _ HBX.out).mono ?_; rintro e X5 ⟨⟨v, rfl⟩, hb5, hbl5⟩)
          have HR := hid (⟨hb5, hbl5⟩ : _ ∧ _)
          clear hb5 hbl5
          go_roundw
          case rel => exact ⟨k + 1, by omega, by go_num, HR.out⟩
          case measure => simp [RowKit.intOf]; omega
        · go_wp2_with fail
          refine wp_region_ord [(0, true), (1, true), (2, true), (3, true), (4, false), (5, true), (6, true), (7, true), (8, true), (9, true), (10, true), (11, true), (12, true), (13, true), (14, true), (15, true), (16, true), (17, true), (18, true), (19, true), (20, true), (21, true), (22, true), (23, true), (24, true)] (fun W' => Bx W' wr.heap.size #[.int .i64 kd, .slice na nn nc, .int .i64 lv, .slice va vn vc, .bool fi, .int .i64 bi] ∧ Bx W' w2.heap.size #[ht.v, hs.v, ho.v, hp.v, .slice ea en ec, .slice da dn_ dc, .slice ma mn_ mc, .slice wa wn wc]) (by kernel_rfl) (by kernel_rfl) (by intro d v c a w h; cases d <;> exact h) (⟨HLX.out, HX3b.out⟩) ?_
          repeat (first
            | (refine ord_skip rfl rfl ?_; simp only [Act.put, List.setIfInBounds_toArray, List.set_cons_zero, List.set_cons_succ])
            | (refine ord_q rfl rfl ?_; apply Exists.intro; refine ⟨fun wS hS => ?_, ?_⟩; (go_simp; try with_reducible rfl); simp only [Act.put, List.setIfInBounds_toArray, List.set_cons_zero, List.set_cons_succ]))
          refine ord_l rfl rfl (fun K hK => ?_)
          go_simp
          refine (check_all (HLA3.out.below (Below.refl _ _).drew) HOK.out (HG3.out.below (Below.refl _ _).drew)).mono ?_
          rintro en_ X4 ⟨rfl, hb4⟩
          have HBX := hid (show Below X3.heap.size X3 X4 from (Below.refl _ _).drew.trans hb4)
          refine hK _ _ ⟨HLX.out.keep HBX.out, HX3b.out.keep HBX.out⟩ ?_
          clear hK K hb4
          repeat (first
            | (refine ord_skip rfl rfl ?_; simp only [Act.put, List.setIfInBounds_toArray, List.set_cons_zero, List.set_cons_succ])
            | (refine ord_q rfl rfl ?_; apply Exists.intro; refine ⟨fun wS hS => ?_, ?_⟩; (go_simp; try with_reducible rfl); simp only [Act.put, List.setIfInBounds_toArray, List.set_cons_zero, List.set_cons_succ]))
          refine ord_nil ?_
          go_wp2_with (go_at_call 11; refine (HFIN.out _ HBX.out).mono ?_; rintro e X5 ⟨⟨v, rfl⟩, hb5, hbl5⟩)
          have HR := hid (⟨hb5, hbl5⟩ : _ ∧ _)
          clear hb5 hbl5
          go_roundw
          case rel => exact ⟨k + 1, by omega, by go_num, HR.out⟩
          case measure => simp [RowKit.intOf]; omega
      · obtain rfl : k = lcs.length := by omega
        have htk : (linesS nl' es' ds' ms' qs' scan' dn' mn').take lcs.length = linesS nl' es' ds' ms' qs' scan' dn' mn' := List.take_of_length_le (by rw [HLN.out.1]; exact Nat.le_refl _)
        have HBL' := hid (htk ▸ HBL.out)
        have hxr := HX4.out.keep HBW.out
        have hcx := hxr.1; have hfx := hxr.2.1; have hlx := hxr.2.2
        have HBR := hid (HB4.out.trans (HBW.out.mono HB4.out.size))
        have HBT := hid (HBE.out.trans (HBW.out.mono (HBE.out.size)))
        have HPT := hid (ptext_yes _ nl' es' ds' ms' qs' scan' dn' mn' wr (HG.out.below HBR.out) (fun i hi => (HN2.out i hi).below HBT.out rfl) (HD2.out.below HBT.out rfl) HCK.out)
        clear htk hxr
        go_wp2_with fail
        refine HPT.out.mono ?_
        rintro e Y ⟨rfl, hbY⟩
        have HBLY := hid (bld_below HBL'.out hbY)
        have HBY := hid (HBR.out.trans (hbY.mono HBR.out.size))
        clear hbY
        by_cases hle : (textA (linesS nl' es' ds' ms' qs' scan' dn' mn')).length ≤ 131072
        · rw [if_pos hle]
          go_wp2_with (go_at_call 13; refine (Tryz.Builder_String_any_k w4.heap.size w4.heap.size (textA (linesS nl' es' ds' ms' qs' scan' dn' mn')) Y HBLY.out (Nat.le_of_lt (bld_lt HBLY.out))).mono ?_; rintro e Z ⟨rfl, _, hbZ, _⟩)
          go_ret
          exact ⟨rfl, HBY.out.trans (hbZ.mono (by have := HB4.out.size; omega))⟩
        · rw [if_neg hle]
          have hgt : (((textA (linesS nl' es' ds' ms' qs' scan' dn' mn')).length : Int) > 131072) := by omega
          go_wp2_with (go_at_call 14; refine (Tryz.Builder_Len_f w4.heap.size w4.heap.size _ Y HBLY.out).mono ?_; rintro e Z ⟨rfl, rfl⟩; rw [Lib.byteCells_length])
          go_ret
          exact ⟨rfl, HBY.out⟩
  · have HL := hid (plines_no _ nl' es' ds' ms' qs' scan' dn' mn' _ hg3.1 hn3 hd3 (by simpa using hck))
    have HB3 := hid (HB2.out.trans (hb3.mono HB2.out.size))
    clear hx3 hb3 hg3 hd3 hn3 hck
    refine HL.out.mono ?_
    rintro e w4 ⟨rfl, hb4⟩
    have HB4 := hid (HB3.out.trans (hb4.mono HB3.out.size))
    clear hb4
    go_wp2_with fail
    go_ret
    exact ⟨rfl, HB4.out⟩
end Yd
