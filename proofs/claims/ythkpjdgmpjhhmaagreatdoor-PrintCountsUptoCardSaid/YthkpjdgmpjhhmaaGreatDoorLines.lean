import Derived.Test.YthkpjdgmpjhhmaaGreatDoorTellB
import Derived.Test.YthkpjdgmpjhhmaaGreatDoorProg
namespace Yd
open Go Go.RowKit Go.Proofs

def orderS (on tn : List Bs) (x : OrC) (ds : List Int) : LnS := ⟨7, [nameOf on x.obj] ++ ds.map (nameOf tn), 0, [], false, 0⟩
def matchS (pn on tn : List Bs) (x : MaC) (ds : List Int) : LnS := ⟨8, [nameOf pn x.pred, nameOf on x.obj] ++ ds.map (nameOf tn), 0, [], x.first, 0⟩
def wantS (sn : List Bs) (x : Wa) : LnS := ⟨9, [nameOf sn x.ses], 0, [], false, x.bits⟩
theorem Own.strs {X : World} {g : Nat} (h : X.heap.size = g) (l : List Bs) (hl : l.length ≤ maxLen) : Own (X.alloc (.cells (l.map (fun s => Value.string ⟨s.toArray⟩)).toArray 9)) g 9 1 encStr (.slice (some ⟨g, 0, none⟩) l.length l.length) l := by
  subst h
  exact Own.new (hc := cInsStr) X X.heap.size 9 _ l (Nat.le_refl _) (by
    show l.map (fun s => Value.string ⟨s.toArray⟩) = l.flatMap encStr
    induction l with
    | nil => rfl
    | cons a l ih => rw [List.map_cons, List.flatMap_cons, ih (by simp at hl; omega)]; rfl) hl

set_option maxRecDepth 100000 in
set_option maxHeartbeats 2000000 in
theorem lines2 (h : HC) (on tn : List Bs) (x : OrC) (ds : List Int) (b1 : Nat) (w : World) (hH : Bx w b1 (cellsH h)) (hro : Row w 1 encStr h.o.a h.o.n h.o.c on) (hrt : Row w 1 encStr h.t.a h.t.n h.t.c tn) (hrs : Row w 1 encInt x.sa x.sn x.sc ds) (hds : allowB h.t.n ds = true) (hxo : toldB x.obj h.o.n = true) :
    Calls Tryz.prog 69 #[valOr x, .pointer (some ⟨b1, 0, none⟩)] w (RetLn (orderS on tn x ds) w) := by
  obtain ⟨hko, hno⟩ := told_bd hxo
  obtain ⟨ko, hkko⟩ : ∃ kk : Nat, x.obj = kk := ⟨x.obj.toNat, by omega⟩
  obtain ⟨yo, bo, oo, hyo, habo, hco⟩ := hro.at_ (i := ko) (by omega)
  have hcbo := hco 0 _ rfl
  simp only [Nat.mul_one, Nat.add_zero] at hcbo
  have HCBo := hid hcbo
  have hlo : ko < h.o.n := by omega
  have hleo := hro.le
  rw [show orderS on tn x ds = ⟨7, [yo] ++ ds.map (nameOf tn), 0, [], false, 0⟩ by simp [orderS, hkko, nameOf_at hyo]]
  simp only [allowB, Bool.and_eq_true, decide_eq_true_eq, List.all_eq_true] at hds
  have HRT := hid hrt; have HRS := hid hrs; have HDS := hid hds
  have hdl := hds.1; have hdn := hrs.len
  have HDN : Hid (x.sn ≤ 300) := hid (by omega)
  have HH := hid hH
  have hblt := hH.2.2
  obtain ⟨obj, sa, sn, sc⟩ := x
  simp only at hkko HRS HDN
  subst hkko
  obtain ⟨ht, hs, ⟨qo, no, co⟩, hp, he, hd, hm, hw⟩ := h
  simp only at habo hlo hleo HH HRT HDS
  subst habo
  clear hH hko hno hyo hco hro hxo hcbo hrt hrs hds hdl hdn
  go_enter Tryz.func69, Tryz.ntmps69
  go_wp2_with fail
  have hb1V : Bx ((w.alloc (.cells #[.int .i64 ko, .slice sa sn sc] 72)).alloc (.cells #[.int .i64 0, .slice none 0 0, .int .i64 0, .slice none 0 0, .bool false, .int .i64 0] 41)) b1 #[ht.v, hs.v, .slice (some ⟨bo, oo, none⟩) no co, hp.v, he.v, hd.v, hm.v, hw.v] := (HH.out.alloc _).alloc _
  have hbxV : Bx ((w.alloc (.cells #[.int .i64 ko, .slice sa sn sc] 72)).alloc (.cells #[.int .i64 0, .slice none 0 0, .int .i64 0, .slice none 0 0, .bool false, .int .i64 0] 41)) w.heap.size #[.int .i64 ko, .slice sa sn sc] := (Bx.new1 rfl).alloc _
  have hbrV : Bx ((w.alloc (.cells #[.int .i64 ko, .slice sa sn sc] 72)).alloc (.cells #[.int .i64 0, .slice none 0 0, .int .i64 0, .slice none 0 0, .bool false, .int .i64 0] 41)) (w.heap.size + 1) #[.int .i64 0, .slice none 0 0, .int .i64 0, .slice none 0 0, .bool false, .int .i64 0] := Bx.new1 (by simp)
  have hco : ((w.alloc (.cells #[.int .i64 ko, .slice sa sn sc] 72)).alloc (.cells #[.int .i64 0, .slice none 0 0, .int .i64 0, .slice none 0 0, .bool false, .int .i64 0] 41)).cell? ⟨bo, oo + ko, none⟩ = some (.string ⟨yo.toArray⟩) := cellA _ (cellA _ HCBo.out)
  have hbeV : Below w.heap.size w ((w.alloc (.cells #[.int .i64 ko, .slice sa sn sc] 72)).alloc (.cells #[.int .i64 0, .slice none 0 0, .int .i64 0, .slice none 0 0, .bool false, .int .i64 0] 41)) := belowA (belowA (Below.refl _ _) _) _
  have hszV : ((w.alloc (.cells #[.int .i64 ko, .slice sa sn sc] 72)).alloc (.cells #[.int .i64 0, .slice none 0 0, .int .i64 0, .slice none 0 0, .bool false, .int .i64 0] 41)).heap.size = w.heap.size + 2 := by simp
  revert hb1V hbxV hbrV hco hbeV hszV
  generalize ((w.alloc (.cells #[.int .i64 ko, .slice sa sn sc] 72)).alloc (.cells #[.int .i64 0, .slice none 0 0, .int .i64 0, .slice none 0 0, .bool false, .int .i64 0] 41)) = V
  intro hb1V hbxV hbrV hco hbeV hszV
  have HSZ := hid hszV; clear hszV
  have HBE := hid hbeV; have HB1 := hid hb1V; have HBX := hid hbxV; have HBR := hid hbrV; have HCo := hid hco
  clear hb1V hbxV hbrV hbeV hco
  refine wp_region_ordC 13 [(0, 0), (1, 0), (2, 0), (3, 0), (4, 0), (5, 0), (6, 0), (7, 0), (8, 0), (9, 0), (10, 2), (11, 2), (12, 0), (13, 2)] (fun _ => True) (fun W' => Bx W' b1 #[ht.v, hs.v, .slice (some ⟨bo, oo, none⟩) no co, hp.v, he.v, hd.v, hm.v, hw.v] ∧ Bx W' w.heap.size #[.int .i64 ko, .slice sa sn sc] ∧ W'.cell? ⟨bo, oo + ko, none⟩ = some (.string ⟨yo.toArray⟩)) (by kernel_rfl) (by kernel_rfl) (trivial) (⟨HB1.out.drew, HBX.out.drew, HCo.out⟩) ?_
  repeat (first
    | (refine ordC_skip rfl rfl ?_; simp only [Act.put, sa1, sa2, sa3])
    | (refine ordC_skip1 rfl rfl ?_; simp only [Act.put, sa1, sa2, sa3])
    | (refine ordC_q rfl rfl ?_; apply Exists.intro; refine ⟨fun wS hS => ?_, ?_⟩; (go_simp; try with_reducible rfl); simp only [Act.put, sa1, sa2, sa3])
    | (refine ordC_p rfl rfl ?_; apply Exists.intro; refine ⟨fun wS hS => ?_, ?_⟩; (go_simp; try with_reducible rfl); simp only [Act.put, sa1, sa2, sa3]))
  refine ordC_l rfl rfl (fun K hK => ?_)
  go_simp
  refine hK _ _ ⟨trivial, HB1.out.drew.alloc _, HBX.out.drew.alloc _, cellA _ HCo.out⟩ ?_
  clear hK K
  refine ordC_l rfl rfl (fun K hK => ?_)
  go_simp
  refine (of_any ⟨ht, hs, ⟨some ⟨bo, oo, none⟩, no, co⟩, hp, he, hd, hm, hw⟩ tn sa sn sc ds (some ⟨V.heap.size, 0, none⟩) 1 [yo] V.drew _ (belowA (Below.refl V.drew.heap.size V.drew) (.cells #[.string ⟨yo.toArray⟩] 9)) ((HRS.out.below HBE.out rfl).drew) ((HRT.out.below HBE.out rfl).drew) HDS.out.2 (Own.strs (X := V.drew) rfl [yo] (by simp [maxLen])) (by have := HDN.out; simp; omega)).mono ?_
  rintro en w2 ⟨a', c', rfl, hown, hb2⟩
  have HB2 := hid hb2; have HOW := hid hown
  have hbr2 := HBR.out.drew.keep hb2; have hc3 := hbr2.1; have hf3 := hbr2.2.1; have hl3 := hbr2.2.2
  refine hK _ _ ⟨trivial, HB1.out.drew.keep hb2, HBX.out.drew.keep hb2, bget hb2 rfl HCo.out⟩ ?_
  have HBR2 := hid hbr2
  clear hK K hb2 hown hbr2
  repeat (first
    | (refine ordC_skip rfl rfl ?_; simp only [Act.put, sa1, sa2, sa3])
    | (refine ordC_skip1 rfl rfl ?_; simp only [Act.put, sa1, sa2, sa3])
    | (refine ordC_q rfl rfl ?_; apply Exists.intro; refine ⟨fun wS hS => ?_, ?_⟩; (go_simp; try with_reducible rfl); simp only [Act.put, sa1, sa2, sa3])
    | (refine ordC_p rfl rfl ?_; apply Exists.intro; refine ⟨fun wS hS => ?_, ?_⟩; (go_simp; try with_reducible rfl); simp only [Act.put, sa1, sa2, sa3]))
  refine ordC_m rfl rfl rfl (fun K hK => ?_)
  go_simp
  refine hK _ _ trivial ?_
  clear hK K
  refine ordC_nil ?_
  have hown' : Own w2 V.heap.size 9 1 encStr (.slice a' (ds.length + 1) c') ([yo] ++ ds.map (nameOf tn)) := by
    have h1 := HOW.out
    have h2 : ([yo] ++ ds.map (nameOf tn)).length = ds.length + 1 := by simp
    rw [h2] at h1; exact h1
  have hbe2 : Below w.heap.size w w2 := HBE.out.drew.trans (HB2.out.mono HBE.out.size)
  have hle2 : V.heap.size ≤ w2.heap.size := HB2.out.size
  have FIN : Hid (∀ W', Same (fun i => i ≠ w.heap.size + 1) w2 W' → RetLn ⟨7, [yo] ++ ds.map (nameOf tn), 0, [], false, 0⟩ w (.returned (valLn ⟨7, a', ds.length + 1, c', 0, none, 0, 0, false, 0⟩)) W') := hid (fun W' hs =>
    ⟨_, rfl, ⟨⟨rfl, rfl, rfl, rfl, by simp, rfl⟩, (hown'.same hs (fun g hg => by have := (hown'.lt g hg).1; have := HSZ.out; simp; omega)).mono (by have := HSZ.out; omega), Own.nil_ _ _ _ _ _⟩, hs.below hbe2 (fun i hi => by simp; omega) hbe2.size⟩)
  clear hown' hbe2 hle2
  go_wp2_with fail
  refine bodyPost_ret (v := valLn ⟨7, a', ds.length + 1, c', 0, none, 0, 0, false, 0⟩) (by simp [results, Tryz.results69, go_sem, hc3]) rfl (FIN.out _ ?_)
  repeat (first | (refine Same.setTail ?_ (by simp)) | (refine Same.drewTail ?_) | (with_reducible exact Same.refl' _))

set_option maxRecDepth 100000 in
set_option maxHeartbeats 2000000 in
theorem lines4 (h : HC) (sn : List Bs) (x : Wa) (b1 : Nat) (w : World) (hH : Bx w b1 (cellsH h)) (hrs : Row w 1 encStr h.s.a h.s.n h.s.c sn) (hxs : toldB x.ses h.s.n = true) :
    Calls Tryz.prog 71 #[valWa x, .pointer (some ⟨b1, 0, none⟩)] w (RetLn (wantS sn x) w) := by
  obtain ⟨hks, hns⟩ := told_bd hxs
  obtain ⟨ks, hkks⟩ : ∃ kk : Nat, x.ses = kk := ⟨x.ses.toNat, by omega⟩
  obtain ⟨ys, bs, os, hys, habs, hcs⟩ := hrs.at_ (i := ks) (by omega)
  have hcbs := hcs 0 _ rfl
  simp only [Nat.mul_one, Nat.add_zero] at hcbs
  have HCBs := hid hcbs
  have hls : ks < h.s.n := by omega
  have hles := hrs.le
  rw [show wantS sn x = ⟨9, [ys], 0, [], false, x.bits⟩ by simp [wantS, hkks, nameOf_at hys]]
  have HH := hid hH
  have hblt := hH.2.2
  obtain ⟨ses, bits⟩ := x
  simp only at hkks
  subst hkks
  obtain ⟨ht, ⟨qs, ns, cs⟩, ho, hp, he, hd, hm, hw⟩ := h
  simp only at habs hls hles HH
  subst habs
  clear hH hks hns hys hcs hrs hxs hcbs
  go_enter Tryz.func71, Tryz.ntmps71
  go_wp2_with fail
  have hb1V : Bx ((w.alloc (.cells #[.int .i64 ks, .int .i64 bits] 82)).alloc (.cells #[.int .i64 0, .slice none 0 0, .int .i64 0, .slice none 0 0, .bool false, .int .i64 0] 41)) b1 #[ht.v, .slice (some ⟨bs, os, none⟩) ns cs, ho.v, hp.v, he.v, hd.v, hm.v, hw.v] := (HH.out.alloc _).alloc _
  have hbxV : Bx ((w.alloc (.cells #[.int .i64 ks, .int .i64 bits] 82)).alloc (.cells #[.int .i64 0, .slice none 0 0, .int .i64 0, .slice none 0 0, .bool false, .int .i64 0] 41)) w.heap.size #[.int .i64 ks, .int .i64 bits] := (Bx.new1 rfl).alloc _
  have hbrV : Bx ((w.alloc (.cells #[.int .i64 ks, .int .i64 bits] 82)).alloc (.cells #[.int .i64 0, .slice none 0 0, .int .i64 0, .slice none 0 0, .bool false, .int .i64 0] 41)) (w.heap.size + 1) #[.int .i64 0, .slice none 0 0, .int .i64 0, .slice none 0 0, .bool false, .int .i64 0] := Bx.new1 (by simp)
  have hcs : ((w.alloc (.cells #[.int .i64 ks, .int .i64 bits] 82)).alloc (.cells #[.int .i64 0, .slice none 0 0, .int .i64 0, .slice none 0 0, .bool false, .int .i64 0] 41)).cell? ⟨bs, os + ks, none⟩ = some (.string ⟨ys.toArray⟩) := cellA _ (cellA _ HCBs.out)
  have hbeV : Below w.heap.size w ((w.alloc (.cells #[.int .i64 ks, .int .i64 bits] 82)).alloc (.cells #[.int .i64 0, .slice none 0 0, .int .i64 0, .slice none 0 0, .bool false, .int .i64 0] 41)) := belowA (belowA (Below.refl _ _) _) _
  have hszV : ((w.alloc (.cells #[.int .i64 ks, .int .i64 bits] 82)).alloc (.cells #[.int .i64 0, .slice none 0 0, .int .i64 0, .slice none 0 0, .bool false, .int .i64 0] 41)).heap.size = w.heap.size + 2 := by simp
  have HSZ := hid hszV; clear hszV
  have HBE := hid hbeV; have HB1 := hid hb1V; have HBX := hid hbxV; have HBR := hid hbrV; have HCs := hid hcs
  clear hb1V hbxV hbrV hbeV hcs
  refine wp_region_ordC 11 [(0, 0), (1, 0), (2, 0), (3, 0), (4, 0), (5, 0), (6, 0), (8, 0), (9, 0), (7, 2), (10, 0), (11, 2)] (fun _ => True) (fun W' => Bx W' b1 #[ht.v, .slice (some ⟨bs, os, none⟩) ns cs, ho.v, hp.v, he.v, hd.v, hm.v, hw.v] ∧ Bx W' w.heap.size #[.int .i64 ks, .int .i64 bits] ∧ W'.cell? ⟨bs, os + ks, none⟩ = some (.string ⟨ys.toArray⟩)) (by kernel_rfl) (by kernel_rfl) (trivial) (⟨HB1.out.drew, HBX.out.drew, HCs.out⟩) ?_
  repeat (first
    | (refine ordC_skip rfl rfl ?_; simp only [Act.put, sa1, sa2, sa3])
    | (refine ordC_skip1 rfl rfl ?_; simp only [Act.put, sa1, sa2, sa3])
    | (refine ordC_q rfl rfl ?_; apply Exists.intro; refine ⟨fun wS hS => ?_, ?_⟩; (go_simp; try with_reducible rfl); simp only [Act.put, sa1, sa2, sa3])
    | (refine ordC_p rfl rfl ?_; apply Exists.intro; refine ⟨fun wS hS => ?_, ?_⟩; (go_simp; try with_reducible rfl); simp only [Act.put, sa1, sa2, sa3]))
  refine ordC_l rfl rfl (fun K hK => ?_)
  go_simp
  refine hK _ _ ⟨trivial, HB1.out.drew.alloc _, HBX.out.drew.alloc _, cellA _ HCs.out⟩ ?_
  clear hK K
  repeat (first
    | (refine ordC_skip rfl rfl ?_; simp only [Act.put, sa1, sa2, sa3])
    | (refine ordC_skip1 rfl rfl ?_; simp only [Act.put, sa1, sa2, sa3])
    | (refine ordC_q rfl rfl ?_; apply Exists.intro; refine ⟨fun wS hS => ?_, ?_⟩; (go_simp; try with_reducible rfl); simp only [Act.put, sa1, sa2, sa3])
    | (refine ordC_p rfl rfl ?_; apply Exists.intro; refine ⟨fun wS hS => ?_, ?_⟩; (go_simp; try with_reducible rfl); simp only [Act.put, sa1, sa2, sa3]))
  refine ordC_m rfl rfl rfl (fun K hK => ?_)
  go_simp
  refine hK _ _ trivial ?_
  clear hK K
  refine ordC_nil ?_
  go_wp2_with fail
  refine bodyPost_ret (v := valLn ⟨9, (some ⟨w.heap.size + 2, 0, none⟩), 1, 1, 0, none, 0, 0, false, bits⟩) (by simp [results, Tryz.results71, go_sem]) rfl ⟨_, rfl, ⟨⟨rfl, rfl, rfl, rfl, rfl, rfl⟩, ?_, Own.nil_ _ _ _ _ _⟩, ?_⟩
  · exact ((Own.strs (by simp) [ys] (by simp [maxLen])).drew).mono (by omega)
  · exact (belowA (belowA (belowA (Below.refl _ _) _) _) _).drew

set_option maxRecDepth 100000 in
set_option maxHeartbeats 2000000 in
theorem lines3 (h : HC) (pn on tn : List Bs) (x : MaC) (ds : List Int) (b1 : Nat) (w : World) (hH : Bx w b1 (cellsH h)) (hrp : Row w 1 encStr h.p.a h.p.n h.p.c pn) (hro : Row w 1 encStr h.o.a h.o.n h.o.c on) (hrt : Row w 1 encStr h.t.a h.t.n h.t.c tn) (hrs : Row w 1 encInt x.sa x.sn x.sc ds) (hds : allowB h.t.n ds = true) (hxp : toldB x.pred h.p.n = true) (hxo : toldB x.obj h.o.n = true) :
    Calls Tryz.prog 70 #[valMa x, .pointer (some ⟨b1, 0, none⟩)] w (RetLn (matchS pn on tn x ds) w) := by
  obtain ⟨hkp, hnp⟩ := told_bd hxp
  obtain ⟨kp, hkkp⟩ : ∃ kk : Nat, x.pred = kk := ⟨x.pred.toNat, by omega⟩
  obtain ⟨yp, bp, op, hyp, habp, hcp⟩ := hrp.at_ (i := kp) (by omega)
  have hcbp := hcp 0 _ rfl
  simp only [Nat.mul_one, Nat.add_zero] at hcbp
  have HCBp := hid hcbp
  have hlp : kp < h.p.n := by omega
  have hlep := hrp.le
  obtain ⟨hko, hno⟩ := told_bd hxo
  obtain ⟨ko, hkko⟩ : ∃ kk : Nat, x.obj = kk := ⟨x.obj.toNat, by omega⟩
  obtain ⟨yo, bo, oo, hyo, habo, hco⟩ := hro.at_ (i := ko) (by omega)
  have hcbo := hco 0 _ rfl
  simp only [Nat.mul_one, Nat.add_zero] at hcbo
  have HCBo := hid hcbo
  have hlo : ko < h.o.n := by omega
  have hleo := hro.le
  rw [show matchS pn on tn x ds = ⟨8, [yp, yo] ++ ds.map (nameOf tn), 0, [], x.first, 0⟩ by simp [matchS, hkkp, nameOf_at hyp, hkko, nameOf_at hyo]]
  simp only [allowB, Bool.and_eq_true, decide_eq_true_eq, List.all_eq_true] at hds
  have HRT := hid hrt; have HRS := hid hrs; have HDS := hid hds
  have hdl := hds.1; have hdn := hrs.len
  have HDN : Hid (x.sn ≤ 300) := hid (by omega)
  have HH := hid hH
  have hblt := hH.2.2
  obtain ⟨pred, obj, first, sa, sn, sc⟩ := x
  simp only at hkkp hkko HRS HDN
  subst hkkp; subst hkko
  obtain ⟨ht, hs, ⟨qo, no, co⟩, ⟨qp, np, cp⟩, he, hd, hm, hw⟩ := h
  simp only at habp hlp hlep habo hlo hleo HH HRT HDS
  subst habp; subst habo
  clear hH hkp hnp hyp hcp hrp hxp hcbp hko hno hyo hco hro hxo hcbo hrt hrs hds hdl hdn
  go_enter Tryz.func70, Tryz.ntmps70
  go_wp2_with fail
  have hb1V : Bx ((w.alloc (.cells #[.int .i64 kp, .int .i64 ko, .bool first, .slice sa sn sc] 79)).alloc (.cells #[.int .i64 0, .slice none 0 0, .int .i64 0, .slice none 0 0, .bool false, .int .i64 0] 41)) b1 #[ht.v, hs.v, .slice (some ⟨bo, oo, none⟩) no co, .slice (some ⟨bp, op, none⟩) np cp, he.v, hd.v, hm.v, hw.v] := (HH.out.alloc _).alloc _
  have hbxV : Bx ((w.alloc (.cells #[.int .i64 kp, .int .i64 ko, .bool first, .slice sa sn sc] 79)).alloc (.cells #[.int .i64 0, .slice none 0 0, .int .i64 0, .slice none 0 0, .bool false, .int .i64 0] 41)) w.heap.size #[.int .i64 kp, .int .i64 ko, .bool first, .slice sa sn sc] := (Bx.new1 rfl).alloc _
  have hbrV : Bx ((w.alloc (.cells #[.int .i64 kp, .int .i64 ko, .bool first, .slice sa sn sc] 79)).alloc (.cells #[.int .i64 0, .slice none 0 0, .int .i64 0, .slice none 0 0, .bool false, .int .i64 0] 41)) (w.heap.size + 1) #[.int .i64 0, .slice none 0 0, .int .i64 0, .slice none 0 0, .bool false, .int .i64 0] := Bx.new1 (by simp)
  have hcp : ((w.alloc (.cells #[.int .i64 kp, .int .i64 ko, .bool first, .slice sa sn sc] 79)).alloc (.cells #[.int .i64 0, .slice none 0 0, .int .i64 0, .slice none 0 0, .bool false, .int .i64 0] 41)).cell? ⟨bp, op + kp, none⟩ = some (.string ⟨yp.toArray⟩) := cellA _ (cellA _ HCBp.out)
  have hco : ((w.alloc (.cells #[.int .i64 kp, .int .i64 ko, .bool first, .slice sa sn sc] 79)).alloc (.cells #[.int .i64 0, .slice none 0 0, .int .i64 0, .slice none 0 0, .bool false, .int .i64 0] 41)).cell? ⟨bo, oo + ko, none⟩ = some (.string ⟨yo.toArray⟩) := cellA _ (cellA _ HCBo.out)
  have hbeV : Below w.heap.size w ((w.alloc (.cells #[.int .i64 kp, .int .i64 ko, .bool first, .slice sa sn sc] 79)).alloc (.cells #[.int .i64 0, .slice none 0 0, .int .i64 0, .slice none 0 0, .bool false, .int .i64 0] 41)) := belowA (belowA (Below.refl _ _) _) _
  have hszV : ((w.alloc (.cells #[.int .i64 kp, .int .i64 ko, .bool first, .slice sa sn sc] 79)).alloc (.cells #[.int .i64 0, .slice none 0 0, .int .i64 0, .slice none 0 0, .bool false, .int .i64 0] 41)).heap.size = w.heap.size + 2 := by simp
  revert hb1V hbxV hbrV hcp hco hbeV hszV
  generalize ((w.alloc (.cells #[.int .i64 kp, .int .i64 ko, .bool first, .slice sa sn sc] 79)).alloc (.cells #[.int .i64 0, .slice none 0 0, .int .i64 0, .slice none 0 0, .bool false, .int .i64 0] 41)) = V
  intro hb1V hbxV hbrV hcp hco hbeV hszV
  have HSZ := hid hszV; clear hszV
  have HBE := hid hbeV; have HB1 := hid hb1V; have HBX := hid hbxV; have HBR := hid hbrV; have HCp := hid hcp; have HCo := hid hco
  clear hb1V hbxV hbrV hbeV hcp hco
  refine wp_region_ordC 22 [(0, 0), (1, 0), (2, 0), (3, 0), (4, 0), (5, 0), (6, 0), (7, 0), (8, 0), (9, 0), (10, 0), (11, 0), (12, 0), (13, 0), (14, 0), (15, 0), (16, 0), (17, 0), (18, 0), (19, 2), (20, 2), (21, 0), (22, 2)] (fun _ => True) (fun W' => Bx W' b1 #[ht.v, hs.v, .slice (some ⟨bo, oo, none⟩) no co, .slice (some ⟨bp, op, none⟩) np cp, he.v, hd.v, hm.v, hw.v] ∧ Bx W' w.heap.size #[.int .i64 kp, .int .i64 ko, .bool first, .slice sa sn sc] ∧ W'.cell? ⟨bp, op + kp, none⟩ = some (.string ⟨yp.toArray⟩) ∧ W'.cell? ⟨bo, oo + ko, none⟩ = some (.string ⟨yo.toArray⟩)) (by kernel_rfl) (by kernel_rfl) (trivial) (⟨HB1.out.drew, HBX.out.drew, HCp.out, HCo.out⟩) ?_
  repeat (first
    | (refine ordC_skip rfl rfl ?_; simp only [Act.put, sa1, sa2, sa3])
    | (refine ordC_skip1 rfl rfl ?_; simp only [Act.put, sa1, sa2, sa3])
    | (refine ordC_q rfl rfl ?_; apply Exists.intro; refine ⟨fun wS hS => ?_, ?_⟩; (go_simp; try with_reducible rfl); simp only [Act.put, sa1, sa2, sa3])
    | (refine ordC_p rfl rfl ?_; apply Exists.intro; refine ⟨fun wS hS => ?_, ?_⟩; (go_simp; try with_reducible rfl); simp only [Act.put, sa1, sa2, sa3]))
  refine ordC_l rfl rfl (fun K hK => ?_)
  go_simp
  refine hK _ _ ⟨trivial, HB1.out.drew.alloc _, HBX.out.drew.alloc _, cellA _ HCp.out, cellA _ HCo.out⟩ ?_
  clear hK K
  refine ordC_l rfl rfl (fun K hK => ?_)
  go_simp
  refine (of_any ⟨ht, hs, ⟨some ⟨bo, oo, none⟩, no, co⟩, ⟨some ⟨bp, op, none⟩, np, cp⟩, he, hd, hm, hw⟩ tn sa sn sc ds (some ⟨V.heap.size, 0, none⟩) 2 [yp, yo] V.drew _ (belowA (Below.refl V.drew.heap.size V.drew) (.cells #[.string ⟨yp.toArray⟩, .string ⟨yo.toArray⟩] 9)) ((HRS.out.below HBE.out rfl).drew) ((HRT.out.below HBE.out rfl).drew) HDS.out.2 (Own.strs (X := V.drew) rfl [yp, yo] (by simp [maxLen])) (by have := HDN.out; simp; omega)).mono ?_
  rintro en w2 ⟨a', c', rfl, hown, hb2⟩
  have HB2 := hid hb2; have HOW := hid hown
  have hbr2 := HBR.out.drew.keep hb2; have hc3 := hbr2.1; have hf3 := hbr2.2.1; have hl3 := hbr2.2.2
  refine hK _ _ ⟨trivial, HB1.out.drew.keep hb2, HBX.out.drew.keep hb2, bget hb2 rfl HCp.out, bget hb2 rfl HCo.out⟩ ?_
  have HBR2 := hid hbr2
  clear hK K hb2 hown hbr2
  repeat (first
    | (refine ordC_skip rfl rfl ?_; simp only [Act.put, sa1, sa2, sa3])
    | (refine ordC_skip1 rfl rfl ?_; simp only [Act.put, sa1, sa2, sa3])
    | (refine ordC_q rfl rfl ?_; apply Exists.intro; refine ⟨fun wS hS => ?_, ?_⟩; (go_simp; try with_reducible rfl); simp only [Act.put, sa1, sa2, sa3])
    | (refine ordC_p rfl rfl ?_; apply Exists.intro; refine ⟨fun wS hS => ?_, ?_⟩; (go_simp; try with_reducible rfl); simp only [Act.put, sa1, sa2, sa3]))
  refine ordC_m rfl rfl rfl (fun K hK => ?_)
  go_simp
  refine hK _ _ trivial ?_
  clear hK K
  refine ordC_nil ?_
  have hown' : Own w2 V.heap.size 9 1 encStr (.slice a' (ds.length + 2) c') ([yp, yo] ++ ds.map (nameOf tn)) := by
    have h1 := HOW.out
    have h2 : ([yp, yo] ++ ds.map (nameOf tn)).length = ds.length + 2 := by simp
    rw [h2] at h1; exact h1
  have hbe2 : Below w.heap.size w w2 := HBE.out.drew.trans (HB2.out.mono HBE.out.size)
  have hle2 : V.heap.size ≤ w2.heap.size := HB2.out.size
  have FIN : Hid (∀ W', Same (fun i => i ≠ w.heap.size + 1) w2 W' → RetLn ⟨8, [yp, yo] ++ ds.map (nameOf tn), 0, [], first, 0⟩ w (.returned (valLn ⟨8, a', ds.length + 2, c', 0, none, 0, 0, first, 0⟩)) W') := hid (fun W' hs =>
    ⟨_, rfl, ⟨⟨rfl, rfl, rfl, rfl, by simp, rfl⟩, (hown'.same hs (fun g hg => by have := (hown'.lt g hg).1; have := HSZ.out; simp; omega)).mono (by have := HSZ.out; omega), Own.nil_ _ _ _ _ _⟩, hs.below hbe2 (fun i hi => by simp; omega) hbe2.size⟩)
  clear hown' hbe2 hle2
  go_wp2_with fail
  refine bodyPost_ret (v := valLn ⟨8, a', ds.length + 2, c', 0, none, 0, 0, first, 0⟩) (by simp [results, Tryz.results70, go_sem, hc3]) rfl (FIN.out _ ?_)
  repeat (first | (refine Same.setTail ?_ (by simp)) | (refine Same.drewTail ?_) | (with_reducible exact Same.refl' _))
end Yd
