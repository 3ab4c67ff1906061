import Derived.Test.YthkpjdgmpjhhmaaGreatDoorTellB
import Derived.Test.YthkpjdgmpjhhmaaGreatDoorProg
import Derived.Test.YthkpjdgmpjhhmaaGreatDoorGround
set_option maxRecDepth 200000
set_option maxHeartbeats 8000000
namespace Yd
open Go Go.RowKit Go.Proofs

def orderS (on tn : List Bs) (x : OrC) (ds : List Int) : LnS := ⟨7, [nameOf on x.obj] ++ ds.map (nameOf tn), 0, [], false, 0⟩
def matchS (pn on tn : List Bs) (x : MaC) (ds : List Int) : LnS := ⟨8, [nameOf pn x.pred, nameOf on x.obj] ++ ds.map (nameOf tn), 0, [], x.first, 0⟩
def wantS (sn : List Bs) (x : Wa) : LnS := ⟨9, [nameOf sn x.ses], 0, [], false, x.bits⟩
theorem Own.strs {X : World} {g : Nat} (h : X.heap.size = g) (l : List Bs) (hl : l.length ≤ maxLen) : Own (X.alloc (.cells (l.map (fun s => Value.string ⟨s.toArray⟩)).toArray 9)) g 9 1 encStr (.slice (some ⟨g, 0, none⟩) l.length l.length) l := by
 subst h
 exact Own.new (hc := cInsStr) X X.heap.size 9 _ l (Nat.le_refl _) (by
   show l.map (fun s => Value.string ⟨s.toArray⟩) = l.flatMap encStr
   induction l with
   | nil => rfl
   | cons a l ih => rw [List.map_cons, List.flatMap_cons, ih (by simp at hl; omega)]; rfl) hl

theorem lines2 (h : HC) (on tn : List Bs) (x : OrC) (ds : List Int) (b1 : Nat) (w : World) (hH : Bx w b1 (cellsH h)) (hro : Row w 1 encStr h.o.a h.o.n h.o.c on) (hrt : Row w 1 encStr h.t.a h.t.n h.t.c tn) (hrs : Row w 1 encInt x.sa x.sn x.sc ds) (hds : allowB h.t.n ds = true) (hxo : toldB x.obj h.o.n = true) :
   Calls Tryz.prog 69 #[valOr x, .pointer (some ⟨b1, 0, none⟩)] w (RetLn (orderS on tn x ds) w) := by
 obtain ⟨hko, hno⟩ := told_bd hxo
 obtain ⟨ko, hkko⟩ : ∃ kk : Nat, x.obj = kk := ⟨x.obj.toNat, by omega⟩
 obtain ⟨yo, bo, oo, hyo, habo, hco⟩ := hro.at_ (i := ko) (by omega)
 have hcbo := hco 0 _ rfl
 simp only [Nat.mul_one, Nat.add_zero] at hcbo
 have HCBo := hid hcbo
 have hlo : ko < h.o.n := by omega
 have hleo := hro.le
 rw [show orderS on tn x ds = ⟨7, [yo] ++ ds.map (nameOf tn), 0, [], false, 0⟩ by simp [orderS, hkko, nameOf_at hyo]]
 simp only [allowB, Bool.and_eq_true, decide_eq_true_eq, List.all_eq_true] at hds
 have HRT := hid hrt; have HRS := hid hrs; have HDS := hid hds
 have hdl := hds.1; have hdn := hrs.len
 have HDN : Hid (x.sn ≤ 300) := hid (by omega)
 have HH := hid hH
 have hblt := hH.2.2
 obtain ⟨obj, sa, sn, sc⟩ := x
 simp only at hkko HRS HDN
 subst hkko
 obtain ⟨ht, hs, ⟨qo, no, co⟩, hp, he, hd, hm, hw⟩ := h
 simp only at habo hlo hleo HH HRT HDS
 subst habo
 clear hH hko hno hyo hco hro hxo hcbo hrt hrs hds hdl hdn
 go_enter Tryz.func69, Tryz.ntmps69
 go_wp2_with fail
 have hb1V : Bx ((w.alloc (.cells #[.int .i64 ko, .slice sa sn sc] 72)).alloc (.cells #[.int .i64 0, .slice none 0 0, .int .i64 0, .slice none 0 0, .bool false, .int .i64 0] 41)) b1 #[ht.v, hs.v, .slice (some ⟨bo, oo, none⟩) no co, hp.v, he.v, hd.v, hm.v, hw.v] := (HH.out.alloc _).alloc _
 have hbxV : Bx ((w.alloc (.cells #[.int .i64 ko, .slice sa sn sc] 72)).alloc (.cells #[.int .i64 0, .slice none 0 0, .int .i64 0, .slice none 0 0, .bool false, .int .i64 0] 41)) w.heap.size #[.int .i64 ko, .slice sa sn sc] := (Bx.new1 rfl).alloc _
 have hbrV : Bx ((w.alloc (.cells #[.int .i64 ko, .slice sa sn sc] 72)).alloc (.cells #[.int .i64 0, .slice none 0 0, .int .i64 0, .slice none 0 0, .bool false, .int .i64 0] 41)) (w.heap.size + 1) #[.int .i64 0, .slice none 0 0, .int .i64 0, .slice none 0 0, .bool false, .int .i64 0] := Bx.new1 (by simp)
 have hco : ((w.alloc (.cells #[.int .i64 ko, .slice sa sn sc] 72)).alloc (.cells #[.int .i64 0, .slice none 0 0, .int .i64 0, .slice none 0 0, .bool false, .int .i64 0] 41)).cell? ⟨bo, oo + ko, none⟩ = some (.string ⟨yo.toArray⟩) := cellA _ (cellA _ HCBo.out)
 have hbeV : Below w.heap.size w ((w.alloc (.cells #[.int .i64 ko, .slice sa sn sc] 72)).alloc (.cells #[.int .i64 0, .slice none 0 0, .int .i64 0, .slice none 0 0, .bool false, .int .i64 0] 41)) := belowA (belowA (Below.refl _ _) _) _
 have hszV : ((w.alloc (.cells #[.int .i64 ko, .slice sa sn sc] 72)).alloc (.cells #[.int .i64 0, .slice none 0 0, .int .i64 0, .slice none 0 0, .bool false, .int .i64 0] 41)).heap.size = w.heap.size + 2 := by simp
 revert hb1V hbxV hbrV hco hbeV hszV
 generalize ((w.alloc (.cells #[.int .i64 ko, .slice sa sn sc] 72)).alloc (.cells #[.int .i64 0, .slice none 0 0, .int .i64 0, .slice none 0 0, .bool false, .int .i64 0] 41)) = V
 intro hb1V hbxV hbrV hco hbeV hszV
 have HSZ := hid hszV; clear hszV
 have HBE := hid hbeV; have HB1 := hid hb1V; have HBX := hid hbxV; have HBR := hid hbrV; have HCo := hid hco
 clear hb1V hbxV hbrV hbeV hco
 refine wp_region_ordC 13 [(0, 0), (1, 0), (2, 0), (3, 0), (4, 0), (5, 0), (6, 0), (7, 0), (8, 0), (9, 0), (10, 2), (11, 2), (12, 0), (13, 2)] (fun _ => True) (fun W' => Bx W' b1 #[ht.v, hs.v, .slice (some ⟨bo, oo, none⟩) no co, hp.v, he.v, hd.v, hm.v, hw.v] ∧ Bx W' w.heap.size #[.int .i64 ko, .slice sa sn sc] ∧ W'.cell? ⟨bo, oo + ko, none⟩ = some (.string ⟨yo.toArray⟩)) (by kernel_rfl) (by kernel_rfl) (trivial) (⟨HB1.out.drew, HBX.out.drew, HCo.out⟩) ?_
 repeat ((first | refine ordC_skip rfl rfl ?_ | refine ordC_skip1 rfl rfl ?_ | ((first | refine ordC_q rfl rfl ?_ | refine ordC_p rfl rfl ?_); apply Exists.intro; refine ⟨fun wS hS => ?_, ?_⟩; (go_simp; try with_reducible rfl))); simp only [Act.put, List.setIfInBounds_toArray, List.set_cons_zero, List.set_cons_succ])
 refine ordC_l rfl rfl (fun K hK => ?_)
 go_simp
 refine hK _ _ ⟨trivial, HB1.out.drew.alloc _, HBX.out.drew.alloc _, cellA _ HCo.out⟩ ?_
 clear hK K
 refine ordC_l rfl rfl (fun K hK => ?_)
 go_simp
 refine (of_any ⟨ht, hs, ⟨some ⟨bo, oo, none⟩, no, co⟩, hp, he, hd, hm, hw⟩ tn sa sn sc ds (some ⟨V.heap.size, 0, none⟩) 1 [yo] V.drew _ (belowA (Below.refl V.drew.heap.size V.drew) (.cells #[.string ⟨yo.toArray⟩] 9)) ((HRS.out.below HBE.out rfl).drew) ((HRT.out.below HBE.out rfl).drew) HDS.out.2 (Own.strs (X := V.drew) rfl [yo] (by simp [maxLen])) (by have := HDN.out; simp; omega)).mono ?_
 rintro en w2 ⟨a', c', rfl, hown, hb2⟩
 have HB2 := hid hb2; have HOW := hid hown
 have hbr2 := HBR.out.drew.keep hb2; have hc3 := hbr2.1; have hf3 := hbr2.2.1; have hl3 := hbr2.2.2
 refine hK _ _ ⟨trivial, HB1.out.drew.keep hb2, HBX.out.drew.keep hb2, bget hb2 rfl HCo.out⟩ ?_
 have HBR2 := hid hbr2
 clear hK K hb2 hown hbr2
 repeat ((first | refine ordC_skip rfl rfl ?_ | refine ordC_skip1 rfl rfl ?_ | ((first | refine ordC_q rfl rfl ?_ | refine ordC_p rfl rfl ?_); apply Exists.intro; refine ⟨fun wS hS => ?_, ?_⟩; (go_simp; try with_reducible rfl))); simp only [Act.put, List.setIfInBounds_toArray, List.set_cons_zero, List.set_cons_succ])
 refine ordC_m rfl rfl rfl (fun K hK => ?_)
 go_simp
 refine hK _ _ trivial ?_
 clear hK K
 refine ordC_nil ?_
 have hown' : Own w2 V.heap.size 9 1 encStr (.slice a' (ds.length + 1) c') ([yo] ++ ds.map (nameOf tn)) := by
   have h1 := HOW.out
   have h2 : ([yo] ++ ds.map (nameOf tn)).length = ds.length + 1 := by simp
   rw [h2] at h1; exact h1
 have hbe2 : Below w.heap.size w w2 := HBE.out.drew.trans (HB2.out.mono HBE.out.size)
 have hle2 : V.heap.size ≤ w2.heap.size := HB2.out.size
 have FIN : Hid (∀ W', Same (fun i => i ≠ w.heap.size + 1) w2 W' → RetLn ⟨7, [yo] ++ ds.map (nameOf tn), 0, [], false, 0⟩ w (.returned (valLn ⟨7, a', ds.length + 1, c', 0, none, 0, 0, false, 0⟩)) W') := hid (fun W' hs =>
   ⟨_, rfl, ⟨⟨rfl, rfl, rfl, rfl, by simp, rfl⟩, (hown'.same hs (fun g hg => by have := (hown'.lt g hg).1; have := HSZ.out; simp; omega)).mono (by have := HSZ.out; omega), Own.nil_ _ _ _ _ _⟩, hs.below hbe2 (fun i hi => by simp; omega) hbe2.size⟩)
 clear hown' hbe2 hle2
 go_wp2_with fail
 refine bodyPost_ret (v := valLn ⟨7, a', ds.length + 1, c', 0, none, 0, 0, false, 0⟩) (by simp [results, Tryz.results69, go_sem, hc3]) rfl (FIN.out _ ?_)
 repeat (first | (refine Same.setTail ?_ (by simp)) | (refine Same.drewTail ?_) | (with_reducible exact Same.refl' _))

theorem lines4 (h : HC) (sn : List Bs) (x : Wa) (b1 : Nat) (w : World) (hH : Bx w b1 (cellsH h)) (hrs : Row w 1 encStr h.s.a h.s.n h.s.c sn) (hxs : toldB x.ses h.s.n = true) :
   Calls Tryz.prog 71 #[valWa x, .pointer (some ⟨b1, 0, none⟩)] w (RetLn (wantS sn x) w) := by
 obtain ⟨hks, hns⟩ := told_bd hxs
 obtain ⟨ks, hkks⟩ : ∃ kk : Nat, x.ses = kk := ⟨x.ses.toNat, by omega⟩
 obtain ⟨ys, bs, os, hys, habs, hcs⟩ := hrs.at_ (i := ks) (by omega)
 have hcbs := hcs 0 _ rfl
 simp only [Nat.mul_one, Nat.add_zero] at hcbs
 have HCBs := hid hcbs
 have hls : ks < h.s.n := by omega
 have hles := hrs.le
 rw [show wantS sn x = ⟨9, [ys], 0, [], false, x.bits⟩ by simp [wantS, hkks, nameOf_at hys]]
 have HH := hid hH
 have hblt := hH.2.2
 obtain ⟨ses, bits⟩ := x
 simp only at hkks
 subst hkks
 obtain ⟨ht, ⟨qs, ns, cs⟩, ho, hp, he, hd, hm, hw⟩ := h
 simp only at habs hls hles HH
 subst habs
 clear hH hks hns hys hcs hrs hxs hcbs
 go_enter Tryz.func71, Tryz.ntmps71
 go_wp2_with fail
 have hb1V : Bx ((w.alloc (.cells #[.int .i64 ks, .int .i64 bits] 82)).alloc (.cells #[.int .i64 0, .slice none 0 0, .int .i64 0, .slice none 0 0, .bool false, .int .i64 0] 41)) b1 #[ht.v, .slice (some ⟨bs, os, none⟩) ns cs, ho.v, hp.v, he.v, hd.v, hm.v, hw.v] := (HH.out.alloc _).alloc _
 have hbxV : Bx ((w.alloc (.cells #[.int .i64 ks, .int .i64 bits] 82)).alloc (.cells #[.int .i64 0, .slice none 0 0, .int .i64 0, .slice none 0 0, .bool false, .int .i64 0] 41)) w.heap.size #[.int .i64 ks, .int .i64 bits] := (Bx.new1 rfl).alloc _
 have hbrV : Bx ((w.alloc (.cells #[.int .i64 ks, .int .i64 bits] 82)).alloc (.cells #[.int .i64 0, .slice none 0 0, .int .i64 0, .slice none 0 0, .bool false, .int .i64 0] 41)) (w.heap.size + 1) #[.int .i64 0, .slice none 0 0, .int .i64 0, .slice none 0 0, .bool false, .int .i64 0] := Bx.new1 (by simp)
 have hcs : ((w.alloc (.cells #[.int .i64 ks, .int .i64 bits] 82)).alloc (.cells #[.int .i64 0, .slice none 0 0, .int .i64 0, .slice none 0 0, .bool false, .int .i64 0] 41)).cell? ⟨bs, os + ks, none⟩ = some (.string ⟨ys.toArray⟩) := cellA _ (cellA _ HCBs.out)
 have hbeV : Below w.heap.size w ((w.alloc (.cells #[.int .i64 ks, .int .i64 bits] 82)).alloc (.cells #[.int .i64 0, .slice none 0 0, .int .i64 0, .slice none 0 0, .bool false, .int .i64 0] 41)) := belowA (belowA (Below.refl _ _) _) _
 have hszV : ((w.alloc (.cells #[.int .i64 ks, .int .i64 bits] 82)).alloc (.cells #[.int .i64 0, .slice none 0 0, .int .i64 0, .slice none 0 0, .bool false, .int .i64 0] 41)).heap.size = w.heap.size + 2 := by simp
 have HSZ := hid hszV; clear hszV
 have HBE := hid hbeV; have HB1 := hid hb1V; have HBX := hid hbxV; have HBR := hid hbrV; have HCs := hid hcs
 clear hb1V hbxV hbrV hbeV hcs
 refine wp_region_ordC 11 [(0, 0), (1, 0), (2, 0), (3, 0), (4, 0), (5, 0), (6, 0), (8, 0), (9, 0), (7, 2), (10, 0), (11, 2)] (fun _ => True) (fun W' => Bx W' b1 #[ht.v, .slice (some ⟨bs, os, none⟩) ns cs, ho.v, hp.v, he.v, hd.v, hm.v, hw.v] ∧ Bx W' w.heap.size #[.int .i64 ks, .int .i64 bits] ∧ W'.cell? ⟨bs, os + ks, none⟩ = some (.string ⟨ys.toArray⟩)) (by kernel_rfl) (by kernel_rfl) (trivial) (⟨HB1.out.drew, HBX.out.drew, HCs.out⟩) ?_
 repeat ((first | refine ordC_skip rfl rfl ?_ | refine ordC_skip1 rfl rfl ?_ | ((first | refine ordC_q rfl rfl ?_ | refine ordC_p rfl rfl ?_); apply Exists.intro; refine ⟨fun wS hS => ?_, ?_⟩; (go_simp; try with_reducible rfl))); simp only [Act.put, List.setIfInBounds_toArray, List.set_cons_zero, List.set_cons_succ])
 refine ordC_l rfl rfl (fun K hK => ?_)
 go_simp
 refine hK _ _ ⟨trivial, HB1.out.drew.alloc _, HBX.out.drew.alloc _, cellA _ HCs.out⟩ ?_
 clear hK K
 repeat ((first | refine ordC_skip rfl rfl ?_ | refine ordC_skip1 rfl rfl ?_ | ((first | refine ordC_q rfl rfl ?_ | refine ordC_p rfl rfl ?_); apply Exists.intro; refine ⟨fun wS hS => ?_, ?_⟩; (go_simp; try with_reducible rfl))); simp only [Act.put, List.setIfInBounds_toArray, List.set_cons_zero, List.set_cons_succ])
 refine ordC_m rfl rfl rfl (fun K hK => ?_)
 go_simp
 refine hK _ _ trivial ?_
 clear hK K
 refine ordC_nil ?_
 go_wp2_with fail
 refine bodyPost_ret (v := valLn ⟨9, (some ⟨w.heap.size + 2, 0, none⟩), 1, 1, 0, none, 0, 0, false, bits⟩) (by simp [results, Tryz.results71, go_sem]) rfl ⟨_, rfl, ⟨⟨rfl, rfl, rfl, rfl, rfl, rfl⟩, ?_, Own.nil_ _ _ _ _ _⟩, ?_⟩
 · exact ((Own.strs (by simp) [ys] (by simp [maxLen])).drew).mono (by omega)
 · exact (belowA (belowA (belowA (Below.refl _ _) _) _) _).drew

theorem lines3 (h : HC) (pn on tn : List Bs) (x : MaC) (ds : List Int) (b1 : Nat) (w : World) (hH : Bx w b1 (cellsH h)) (hrp : Row w 1 encStr h.p.a h.p.n h.p.c pn) (hro : Row w 1 encStr h.o.a h.o.n h.o.c on) (hrt : Row w 1 encStr h.t.a h.t.n h.t.c tn) (hrs : Row w 1 encInt x.sa x.sn x.sc ds) (hds : allowB h.t.n ds = true) (hxp : toldB x.pred h.p.n = true) (hxo : toldB x.obj h.o.n = true) :
   Calls Tryz.prog 70 #[valMa x, .pointer (some ⟨b1, 0, none⟩)] w (RetLn (matchS pn on tn x ds) w) := by
 obtain ⟨hkp, hnp⟩ := told_bd hxp
 obtain ⟨kp, hkkp⟩ : ∃ kk : Nat, x.pred = kk := ⟨x.pred.toNat, by omega⟩
 obtain ⟨yp, bp, op, hyp, habp, hcp⟩ := hrp.at_ (i := kp) (by omega)
 have hcbp := hcp 0 _ rfl
 simp only [Nat.mul_one, Nat.add_zero] at hcbp
 have HCBp := hid hcbp
 have hlp : kp < h.p.n := by omega
 have hlep := hrp.le
 obtain ⟨hko, hno⟩ := told_bd hxo
 obtain ⟨ko, hkko⟩ : ∃ kk : Nat, x.obj = kk := ⟨x.obj.toNat, by omega⟩
 obtain ⟨yo, bo, oo, hyo, habo, hco⟩ := hro.at_ (i := ko) (by omega)
 have hcbo := hco 0 _ rfl
 simp only [Nat.mul_one, Nat.add_zero] at hcbo
 have HCBo := hid hcbo
 have hlo : ko < h.o.n := by omega
 have hleo := hro.le
 rw [show matchS pn on tn x ds = ⟨8, [yp, yo] ++ ds.map (nameOf tn), 0, [], x.first, 0⟩ by simp [matchS, hkkp, nameOf_at hyp, hkko, nameOf_at hyo]]
 simp only [allowB, Bool.and_eq_true, decide_eq_true_eq, List.all_eq_true] at hds
 have HRT := hid hrt; have HRS := hid hrs; have HDS := hid hds
 have hdl := hds.1; have hdn := hrs.len
 have HDN : Hid (x.sn ≤ 300) := hid (by omega)
 have HH := hid hH
 have hblt := hH.2.2
 obtain ⟨pred, obj, first, sa, sn, sc⟩ := x
 simp only at hkkp hkko HRS HDN
 subst hkkp; subst hkko
 obtain ⟨ht, hs, ⟨qo, no, co⟩, ⟨qp, np, cp⟩, he, hd, hm, hw⟩ := h
 simp only at habp hlp hlep habo hlo hleo HH HRT HDS
 subst habp; subst habo
 clear hH hkp hnp hyp hcp hrp hxp hcbp hko hno hyo hco hro hxo hcbo hrt hrs hds hdl hdn
 go_enter Tryz.func70, Tryz.ntmps70
 go_wp2_with fail
 have hb1V : Bx ((w.alloc (.cells #[.int .i64 kp, .int .i64 ko, .bool first, .slice sa sn sc] 79)).alloc (.cells #[.int .i64 0, .slice none 0 0, .int .i64 0, .slice none 0 0, .bool false, .int .i64 0] 41)) b1 #[ht.v, hs.v, .slice (some ⟨bo, oo, none⟩) no co, .slice (some ⟨bp, op, none⟩) np cp, he.v, hd.v, hm.v, hw.v] := (HH.out.alloc _).alloc _
 have hbxV : Bx ((w.alloc (.cells #[.int .i64 kp, .int .i64 ko, .bool first, .slice sa sn sc] 79)).alloc (.cells #[.int .i64 0, .slice none 0 0, .int .i64 0, .slice none 0 0, .bool false, .int .i64 0] 41)) w.heap.size #[.int .i64 kp, .int .i64 ko, .bool first, .slice sa sn sc] := (Bx.new1 rfl).alloc _
 have hbrV : Bx ((w.alloc (.cells #[.int .i64 kp, .int .i64 ko, .bool first, .slice sa sn sc] 79)).alloc (.cells #[.int .i64 0, .slice none 0 0, .int .i64 0, .slice none 0 0, .bool false, .int .i64 0] 41)) (w.heap.size + 1) #[.int .i64 0, .slice none 0 0, .int .i64 0, .slice none 0 0, .bool false, .int .i64 0] := Bx.new1 (by simp)
 have hcp : ((w.alloc (.cells #[.int .i64 kp, .int .i64 ko, .bool first, .slice sa sn sc] 79)).alloc (.cells #[.int .i64 0, .slice none 0 0, .int .i64 0, .slice none 0 0, .bool false, .int .i64 0] 41)).cell? ⟨bp, op + kp, none⟩ = some (.string ⟨yp.toArray⟩) := cellA _ (cellA _ HCBp.out)
 have hco : ((w.alloc (.cells #[.int .i64 kp, .int .i64 ko, .bool first, .slice sa sn sc] 79)).alloc (.cells #[.int .i64 0, .slice none 0 0, .int .i64 0, .slice none 0 0, .bool false, .int .i64 0] 41)).cell? ⟨bo, oo + ko, none⟩ = some (.string ⟨yo.toArray⟩) := cellA _ (cellA _ HCBo.out)
 have hbeV : Below w.heap.size w ((w.alloc (.cells #[.int .i64 kp, .int .i64 ko, .bool first, .slice sa sn sc] 79)).alloc (.cells #[.int .i64 0, .slice none 0 0, .int .i64 0, .slice none 0 0, .bool false, .int .i64 0] 41)) := belowA (belowA (Below.refl _ _) _) _
 have hszV : ((w.alloc (.cells #[.int .i64 kp, .int .i64 ko, .bool first, .slice sa sn sc] 79)).alloc (.cells #[.int .i64 0, .slice none 0 0, .int .i64 0, .slice none 0 0, .bool false, .int .i64 0] 41)).heap.size = w.heap.size + 2 := by simp
 revert hb1V hbxV hbrV hcp hco hbeV hszV
 generalize ((w.alloc (.cells #[.int .i64 kp, .int .i64 ko, .bool first, .slice sa sn sc] 79)).alloc (.cells #[.int .i64 0, .slice none 0 0, .int .i64 0, .slice none 0 0, .bool false, .int .i64 0] 41)) = V
 intro hb1V hbxV hbrV hcp hco hbeV hszV
 have HSZ := hid hszV; clear hszV
 have HBE := hid hbeV; have HB1 := hid hb1V; have HBX := hid hbxV; have HBR := hid hbrV; have HCp := hid hcp; have HCo := hid hco
 clear hb1V hbxV hbrV hbeV hcp hco
 refine wp_region_ordC 22 [(0, 0), (1, 0), (2, 0), (3, 0), (4, 0), (5, 0), (6, 0), (7, 0), (8, 0), (9, 0), (10, 0), (11, 0), (12, 0), (13, 0), (14, 0), (15, 0), (16, 0), (17, 0), (18, 0), (19, 2), (20, 2), (21, 0), (22, 2)] (fun _ => True) (fun W' => Bx W' b1 #[ht.v, hs.v, .slice (some ⟨bo, oo, none⟩) no co, .slice (some ⟨bp, op, none⟩) np cp, he.v, hd.v, hm.v, hw.v] ∧ Bx W' w.heap.size #[.int .i64 kp, .int .i64 ko, .bool first, .slice sa sn sc] ∧ W'.cell? ⟨bp, op + kp, none⟩ = some (.string ⟨yp.toArray⟩) ∧ W'.cell? ⟨bo, oo + ko, none⟩ = some (.string ⟨yo.toArray⟩)) (by kernel_rfl) (by kernel_rfl) (trivial) (⟨HB1.out.drew, HBX.out.drew, HCp.out, HCo.out⟩) ?_
 repeat ((first | refine ordC_skip rfl rfl ?_ | refine ordC_skip1 rfl rfl ?_ | ((first | refine ordC_q rfl rfl ?_ | refine ordC_p rfl rfl ?_); apply Exists.intro; refine ⟨fun wS hS => ?_, ?_⟩; (go_simp; try with_reducible rfl))); simp only [Act.put, List.setIfInBounds_toArray, List.set_cons_zero, List.set_cons_succ])
 refine ordC_l rfl rfl (fun K hK => ?_)
 go_simp
 refine hK _ _ ⟨trivial, HB1.out.drew.alloc _, HBX.out.drew.alloc _, cellA _ HCp.out, cellA _ HCo.out⟩ ?_
 clear hK K
 refine ordC_l rfl rfl (fun K hK => ?_)
 go_simp
 refine (of_any ⟨ht, hs, ⟨some ⟨bo, oo, none⟩, no, co⟩, ⟨some ⟨bp, op, none⟩, np, cp⟩, he, hd, hm, hw⟩ tn sa sn sc ds (some ⟨V.heap.size, 0, none⟩) 2 [yp, yo] V.drew _ (belowA (Below.refl V.drew.heap.size V.drew) (.cells #[.string ⟨yp.toArray⟩, .string ⟨yo.toArray⟩] 9)) ((HRS.out.below HBE.out rfl).drew) ((HRT.out.below HBE.out rfl).drew) HDS.out.2 (Own.strs (X := V.drew) rfl [yp, yo] (by simp [maxLen])) (by have := HDN.out; simp; omega)).mono ?_
 rintro en w2 ⟨a', c', rfl, hown, hb2⟩
 have HB2 := hid hb2; have HOW := hid hown
 have hbr2 := HBR.out.drew.keep hb2; have hc3 := hbr2.1; have hf3 := hbr2.2.1; have hl3 := hbr2.2.2
 refine hK _ _ ⟨trivial, HB1.out.drew.keep hb2, HBX.out.drew.keep hb2, bget hb2 rfl HCp.out, bget hb2 rfl HCo.out⟩ ?_
 have HBR2 := hid hbr2
 clear hK K hb2 hown hbr2
 repeat ((first | refine ordC_skip rfl rfl ?_ | refine ordC_skip1 rfl rfl ?_ | ((first | refine ordC_q rfl rfl ?_ | refine ordC_p rfl rfl ?_); apply Exists.intro; refine ⟨fun wS hS => ?_, ?_⟩; (go_simp; try with_reducible rfl))); simp only [Act.put, List.setIfInBounds_toArray, List.set_cons_zero, List.set_cons_succ])
 refine ordC_m rfl rfl rfl (fun K hK => ?_)
 go_simp
 refine hK _ _ trivial ?_
 clear hK K
 refine ordC_nil ?_
 have hown' : Own w2 V.heap.size 9 1 encStr (.slice a' (ds.length + 2) c') ([yp, yo] ++ ds.map (nameOf tn)) := by
   have h1 := HOW.out
   have h2 : ([yp, yo] ++ ds.map (nameOf tn)).length = ds.length + 2 := by simp
   rw [h2] at h1; exact h1
 have hbe2 : Below w.heap.size w w2 := HBE.out.drew.trans (HB2.out.mono HBE.out.size)
 have hle2 : V.heap.size ≤ w2.heap.size := HB2.out.size
 have FIN : Hid (∀ W', Same (fun i => i ≠ w.heap.size + 1) w2 W' → RetLn ⟨8, [yp, yo] ++ ds.map (nameOf tn), 0, [], first, 0⟩ w (.returned (valLn ⟨8, a', ds.length + 2, c', 0, none, 0, 0, first, 0⟩)) W') := hid (fun W' hs =>
   ⟨_, rfl, ⟨⟨rfl, rfl, rfl, rfl, by simp, rfl⟩, (hown'.same hs (fun g hg => by have := (hown'.lt g hg).1; have := HSZ.out; simp; omega)).mono (by have := HSZ.out; omega), Own.nil_ _ _ _ _ _⟩, hs.below hbe2 (fun i hi => by simp; omega) hbe2.size⟩)
 clear hown' hbe2 hle2
 go_wp2_with fail
 refine bodyPost_ret (v := valLn ⟨8, a', ds.length + 2, c', 0, none, 0, 0, first, 0⟩) (by simp [results, Tryz.results70, go_sem, hc3]) rfl (FIN.out _ ?_)
 repeat (first | (refine Same.setTail ?_ (by simp)) | (refine Same.drewTail ?_) | (with_reducible exact Same.refl' _))
end Yd


namespace Yd
open Go Go.RowKit Go.Proofs

def eventS (tn sn on pn : List Bs) (e : EvC) (scan : List Sn) : LnS :=
 if e.kind = 1 then ⟨e.kind, [nameOf tn e.t, nameOf sn e.ses], e.lvl, [], false, 0⟩
 else if e.kind = 2 then ⟨e.kind, [nameOf tn e.t, nameOf on e.obj], 0, [], false, 0⟩
 else if e.kind = 3 then ⟨e.kind, [nameOf tn e.t, nameOf on e.obj], 0, [toldS tn e.v], false, 0⟩
 else if e.kind = 4 then ⟨e.kind, [nameOf tn e.t, nameOf pn e.pred] ++ scan.map (fun q => nameOf on q.obj), 0, scan.map (fun q => toldS tn q.v), false, 0⟩
 else ⟨e.kind, [nameOf tn e.t], 0, [], false, 0⟩
def mapE (h : HC) : Array MapEntry := #[⟨.int .i64 1, .func (.func 63) #[valH h] #[], 0⟩, ⟨.int .i64 2, .func (.func 64) #[valH h] #[], 1⟩, ⟨.int .i64 3, .func (.func 65) #[valH h] #[], 2⟩, ⟨.int .i64 4, .func (.func 66) #[valH h] #[], 3⟩]
theorem get_map {mp : Nat} {W : World} {es : Array MapEntry} {c : Nat} (hm : W.heap[mp]? = some (.map es c)) : (getObj mp).run Tryz.prog W = .ok (.map es c) W := by
 simp [getObj, Sem.run, hm]
theorem chk_int (k : Int) (b : Bool) (W : World) : (Instr.checkKey b 10000 3 (.int .i64 k)).run Tryz.prog W = .ok () W := by kernel_rfl
theorem look_1 (h : HC) (mp : Nat) (W : World) (hm : W.heap[mp]? = some (.map (mapE h) 4)) : (Instr.lookup 131 (.map (some mp)) (.int .i64 1) true).run Tryz.prog W = .ok (.tuple #[.func (.func 63) #[valH h] #[], .bool true]) W := by
 have hg := get_map hm
 simp [Instr.lookup, hg, mapE, chk_int, Instr.findKey, Instr.findNow, Instr.sameNow, Result.andThen]
theorem look_2 (h : HC) (mp : Nat) (W : World) (hm : W.heap[mp]? = some (.map (mapE h) 4)) : (Instr.lookup 131 (.map (some mp)) (.int .i64 2) true).run Tryz.prog W = .ok (.tuple #[.func (.func 64) #[valH h] #[], .bool true]) W := by
 have hg := get_map hm
 simp [Instr.lookup, hg, mapE, chk_int, Instr.findKey, Instr.findNow, Instr.sameNow, Result.andThen]
theorem look_3 (h : HC) (mp : Nat) (W : World) (hm : W.heap[mp]? = some (.map (mapE h) 4)) : (Instr.lookup 131 (.map (some mp)) (.int .i64 3) true).run Tryz.prog W = .ok (.tuple #[.func (.func 65) #[valH h] #[], .bool true]) W := by
 have hg := get_map hm
 simp [Instr.lookup, hg, mapE, chk_int, Instr.findKey, Instr.findNow, Instr.sameNow, Result.andThen]
theorem look_4 (h : HC) (mp : Nat) (W : World) (hm : W.heap[mp]? = some (.map (mapE h) 4)) : (Instr.lookup 131 (.map (some mp)) (.int .i64 4) true).run Tryz.prog W = .ok (.tuple #[.func (.func 66) #[valH h] #[], .bool true]) W := by
 have hg := get_map hm
 simp [Instr.lookup, hg, mapE, chk_int, Instr.findKey, Instr.findNow, Instr.sameNow, Result.andThen]
theorem look_5 (h : HC) (mp : Nat) (W : World) (hm : W.heap[mp]? = some (.map (mapE h) 4)) : (Instr.lookup 131 (.map (some mp)) (.int .i64 5) true).run Tryz.prog W = .ok (.tuple #[.nilFunc, .bool false]) W := by
 have hg := get_map hm
 simp [Instr.lookup, hg, mapE, chk_int, Instr.findKey, Instr.findNow, Instr.sameNow, Result.andThen]
theorem look_6 (h : HC) (mp : Nat) (W : World) (hm : W.heap[mp]? = some (.map (mapE h) 4)) : (Instr.lookup 131 (.map (some mp)) (.int .i64 6) true).run Tryz.prog W = .ok (.tuple #[.nilFunc, .bool false]) W := by
 have hg := get_map hm
 simp [Instr.lookup, hg, mapE, chk_int, Instr.findKey, Instr.findNow, Instr.sameNow, Result.andThen]
theorem Row.intN {X : World} {g : Nat} (h : X.heap.size = g) (n : Int) : Row (X.alloc (.cells #[.int .i64 n] 3)) 1 encInt (some ⟨g, 0, none⟩) 1 1 [n] :=
 h ▸ (Own.new (hc := cInsInt) X X.heap.size 3 #[.int .i64 n] [n] (Nat.le_refl _) rfl (by simp [maxLen])).row (by simp)
@[reducible] def line0 (k : Int) (a : Option Addr) (c : Nat) : LnC := ⟨k, a, 1, c, 0, none, 0, 0, false, 0⟩
structure EvAt (e : EvC) (w : World) (x : Bs) (b5 : Nat) (a : Option Addr) (c : Nat) (Z : World) : Prop where
 be : Bx Z w.heap.size (cellsEv e)
 br : Bx Z (w.heap.size + 1) #[.int .i64 0, .slice none 0 0, .int .i64 0, .slice none 0 0, .bool false, .int .i64 0]
 c5 : Bx Z b5 (cellsLn (line0 e.kind a c))
 on : Own Z w.heap.size 9 1 encStr (.slice a 1 c) [x]
 fn : ∀ g, (Value.slice a 1 c).ownBlock = some g → g ≠ w.heap.size ∧ g ≠ w.heap.size + 1 ∧ g ≠ b5
 le : w.heap.size + 2 ≤ b5
 bw : Below w.heap.size w Z

theorem lines1 (h : HC) (tn sn on pn : List Bs) (e : EvC) (scan : List Sn) (b1 b2 mp : Nat) (w : World) (hH : Bx w b1 (cellsH h)) (hM : Bx w b2 #[.map (some mp)]) (hmp : w.heap[mp]? = some (.map (mapE h) 4))
   (hrt : Row w 1 encStr h.t.a h.t.n h.t.c tn) (hrs : Row w 1 encStr h.s.a h.s.n h.s.c sn) (hro : Row w 1 encStr h.o.a h.o.n h.o.c on) (hrp : Row w 1 encStr h.p.a h.p.n h.p.c pn) (hrc : Row w 3 encSn e.sa e.sn e.sc scan)
   (he : evB h.t.n h.s.n h.o.n h.p.n e scan = true) :
   Calls Tryz.prog 67 #[valEv e, .pointer (some ⟨b1, 0, none⟩), .pointer (some ⟨b2, 0, none⟩)] w (RetLn (eventS tn sn on pn e scan) w) := by
 have het : toldB e.t h.t.n = true := by simp only [evB, Bool.and_eq_true] at he; exact he.1.1.2
 obtain ⟨x, hx⟩ : ∃ x, x = nameOf tn e.t := ⟨_, rfl⟩
 have hbV : Below w.heap.size w ((w.alloc (.cells (cellsEv e) 49)).alloc (.cells #[.int .i64 0, .slice none 0 0, .int .i64 0, .slice none 0 0, .bool false, .int .i64 0] 41)) := belowA (belowA (Below.refl _ _) _) _
 have hlm := (Array.getElem?_eq_some_iff.1 hmp).1
 have HBV := hid hbV
 have HH := hid (hH.keep hbV); have HM := hid hM; have HMP := hid hmp; have HRT := hid hrt; have HRS := hid hrs; have HRO := hid hro; have HRP := hid hrp; have HRC := hid hrc; have HE := hid he; have HET := hid het; have HX := hid hx
 have htl : ∀ t ∈ [e.t], toldB t h.t.n = true := fun t ht => by
   obtain rfl : t = e.t := by simpa using ht
   exact het
 have HOF : Hid (∀ (W' : World) (g : Nat), Below w.heap.size w W' → Row W' 1 encInt (some ⟨g, 0, none⟩) 1 1 [e.t] → Calls Tryz.prog 68 #[valH h, .slice (some ⟨g, 0, none⟩) 1 1, .slice none 0 0] W' (RetNames W' [x])) := hid (fun W' g hb hg => by
   have h1 := of_any h tn (some ⟨g, 0, none⟩) 1 1 [e.t] none 0 [] W' W' (Below.refl _ _) hg (HRT.out.below hb rfl) htl (Own.nil_ _ _ _ _ _) (by simp)
   rw [HX.out]; exact h1)
 clear hbV hH hM hmp hrt hrs hro hrp hrc he het hx htl
 go_enter Tryz.func67, Tryz.ntmps67
 go_wp2_with fail
 refine wp_mono (Q := fun ee a Z => ee = .normal ∧ ∃ v8 v9 v10 v11 v12 v13 v14 v15 b5 na nc, EvAt e w x b5 na nc Z ∧ a = { tmps := #[valEv e, .pointer (some ⟨b1, 0, none⟩), .pointer (some ⟨b2, 0, none⟩), .pointer (some ⟨w.heap.size, 0, none⟩), .pointer (some ⟨w.heap.size + 1, 0, none⟩), .pointer (some ⟨b5, 0, none⟩), undef, undef, v8, v9, v10, v11, v12, v13, v14, v15, undef, undef, undef, undef, undef, undef, undef, undef, undef, undef, undef, undef, undef], defers := [] }) ?reg ?rest
 case reg =>
   refine wp_region_ordT 9 (.q 0 0 (.q 1 0 (.q 2 0 (.q 3 0 (.q 4 0 (.alt 5 (.alt 6 (.q 7 0 (.l 8 (.l 9 .nil))) 8 (.l 6 (.q 7 0 (.l 9 .nil)))) 8 (.l 5 (.l 6 (.q 7 0 (.l 9 .nil)))))))))) (fun _ => True) (fun W' => Bx W' b1 (cellsH h) ∧ Bx W' w.heap.size (cellsEv e)) (by kernel_rfl) (by kernel_rfl) trivial ⟨HH.out.drew, ((Bx.new1 rfl).alloc _).drew⟩ ?_
   repeat ((first | ((first | refine ordT_q rfl rfl ?_ | refine ordT_p rfl rfl ?_); apply Exists.intro; refine ⟨fun wS hS => ?_, ?_⟩; (go_simp; try with_reducible rfl))); simp only [Act.put, List.setIfInBounds_toArray, List.set_cons_zero, List.set_cons_succ])
   refine ⟨?_, ?_⟩
   · refine ordT_one rfl rfl (fun K hK => ?_)
     go_simp
     refine hK _ _ ⟨trivial, (HH.out.alloc _).drew, (((Bx.new1 rfl).alloc _).alloc _).drew⟩ ?_
     clear hK K
     refine ⟨?_, ?_⟩
     · refine ordT_one rfl rfl (fun K hK => ?_)
       go_simp
       refine (HOF.out _ _ (belowA HBV.out _).drew (Row.drew (Row.intN (by simp) e.t))).mono ?_
       rintro en w2 ⟨na, nc, rfl, hown, hb2⟩
       have HOW := hid hown; have HB2 := hid hb2
       refine hK _ _ ⟨trivial, (HH.out.alloc _).drew.keep hb2, (((Bx.new1 rfl).alloc _).alloc _).drew.keep hb2⟩ ?_
       clear hK K hown hb2
       repeat ((first | ((first | refine ordT_q rfl rfl ?_ | refine ordT_p rfl rfl ?_); apply Exists.intro; refine ⟨fun wS hS => ?_, ?_⟩; (go_simp; try with_reducible rfl))); simp only [Act.put, List.setIfInBounds_toArray, List.set_cons_zero, List.set_cons_succ])
       refine ordT_l rfl rfl (fun K hK => ?_)
       go_simp
       refine hK _ _ ⟨trivial, ((HH.out.alloc _).drew.keep HB2.out).alloc _, ((((Bx.new1 rfl).alloc _).alloc _).drew.keep HB2.out).alloc _⟩ ?_
       clear hK K
       refine ordT_m rfl rfl rfl (fun K hK => ?_)
       go_simp
       refine hK _ _ trivial ?_
       clear hK K
       refine ordT_nil ?_
       have hlo : w.heap.size + 3 ≤ w2.heap.size := by have := HB2.out.size; simp at this; omega
       exact ⟨rfl, _, _, _, _, _, _, _, _, _, na, nc, ⟨((((Bx.new1 rfl).alloc _).alloc _).drew.keep HB2.out).alloc _, (((Bx.new1 (by simp)).alloc _).drew.keep HB2.out).alloc _, Bx.new1 rfl, (HOW.out.alloc _).mono (by simp; omega), fun g hg => by have h1 := HOW.out.lt g hg; simp at h1; omega, by omega, belowA ((belowA HBV.out _).drew.trans (HB2.out.mono ((belowA HBV.out _).drew.size))) _⟩, rfl⟩
     · refine ordT_one rfl rfl (fun K hK => ?_)
       go_simp
       refine hK _ _ ⟨trivial, ((HH.out.alloc _).alloc _).drew, ((((Bx.new1 rfl).alloc _).alloc _).alloc _).drew⟩ ?_
       clear hK K
       refine ordT_l rfl rfl (fun K hK => ?_)
       go_simp
       refine (HOF.out _ _ (belowA (belowA HBV.out _) _).drew (Row.drew ((Row.intN (by simp) e.t).below (belowA (Below.refl _ _) _) rfl))).mono ?_
       rintro en w2 ⟨na, nc, rfl, hown, hb2⟩
       have HOW := hid hown; have HB2 := hid hb2
       refine hK _ _ ⟨trivial, ((HH.out.alloc _).alloc _).drew.keep hb2, ((((Bx.new1 rfl).alloc _).alloc _).alloc _).drew.keep hb2⟩ ?_
       clear hK K hown hb2
       repeat ((first | ((first | refine ordT_q rfl rfl ?_ | refine ordT_p rfl rfl ?_); apply Exists.intro; refine ⟨fun wS hS => ?_, ?_⟩; (go_simp; try with_reducible rfl))); simp only [Act.put, List.setIfInBounds_toArray, List.set_cons_zero, List.set_cons_succ])
       have hb5 : Bx w2 (w.heap.size + 3) (cellsLn ⟨0, none, 0, 0, 0, none, 0, 0, false, 0⟩) := (Bx.new1 (by simp)).drew.keep HB2.out
       have hcb := hb5.1; have hfb := hb5.2.1; have hlb := hb5.2.2
       refine ordT_m rfl rfl rfl (fun K hK => ?_)
       go_simp
       refine hK _ _ trivial ?_
       clear hK K
       refine ordT_nil ?_
       have hbe := HB2.out
       have hlo : w.heap.size + 4 ≤ w2.heap.size := by have := HB2.out.size; simp at this; omega
       have FIN : ∀ Z, Same (fun i => i ≠ w.heap.size + 3) w2 Z → Bx Z (w.heap.size + 3) (cellsLn (line0 e.kind na nc)) → EvAt e w x (w.heap.size + 3) na nc Z := fun Z hs h5 =>
         ⟨hs.bx (((((Bx.new1 rfl).alloc _).alloc _).alloc _).drew.keep HB2.out) (by simp), hs.bx ((((Bx.new1 (by simp)).alloc _).alloc _).drew.keep HB2.out) (by simp), h5, (HOW.out.same hs (fun g hg => by have h1 := (HOW.out.lt g hg).1; simp at h1 ⊢; omega)).mono (by simp; omega),
           fun g hg => by have h1 := (HOW.out.lt g hg).1; simp at h1; omega, by omega, hs.below ((belowA (belowA HBV.out _) _).drew.trans (HB2.out.mono ((belowA (belowA HBV.out _) _).drew.size))) (fun i hi => by simp; omega) (by omega)⟩
       exact ⟨rfl, _, _, _, _, _, _, _, _, _, na, nc, FIN _ (by repeat (first | (refine Same.setTail ?_ (by simp)) | (with_reducible exact Same.refl' _))) (Bx.set6 (l' := line0 e.kind na nc) hb5), rfl⟩
   · refine ordT_one rfl rfl (fun K hK => ?_)
     go_simp
     refine hK _ _ ⟨trivial, (HH.out.alloc _).drew, (((Bx.new1 rfl).alloc _).alloc _).drew⟩ ?_
     clear hK K
     refine ordT_l rfl rfl (fun K hK => ?_)
     go_simp
     refine hK _ _ ⟨trivial, ((HH.out.alloc _).alloc _).drew, ((((Bx.new1 rfl).alloc _).alloc _).alloc _).drew⟩ ?_
     clear hK K
     refine ordT_l rfl rfl (fun K hK => ?_)
     go_simp
     refine (HOF.out _ _ (belowA (belowA HBV.out _) _).drew (Row.drew (Row.intN (by simp) e.t))).mono ?_
     rintro en w2 ⟨na, nc, rfl, hown, hb2⟩
     have HOW := hid hown; have HB2 := hid hb2
     refine hK _ _ ⟨trivial, ((HH.out.alloc _).alloc _).drew.keep hb2, ((((Bx.new1 rfl).alloc _).alloc _).alloc _).drew.keep hb2⟩ ?_
     clear hK K hown hb2
     repeat ((first | ((first | refine ordT_q rfl rfl ?_ | refine ordT_p rfl rfl ?_); apply Exists.intro; refine ⟨fun wS hS => ?_, ?_⟩; (go_simp; try with_reducible rfl))); simp only [Act.put, List.setIfInBounds_toArray, List.set_cons_zero, List.set_cons_succ])
     have hb5 : Bx w2 (w.heap.size + 2) (cellsLn ⟨0, none, 0, 0, 0, none, 0, 0, false, 0⟩) := ((Bx.new1 (by simp)).alloc _).drew.keep HB2.out
     have hcb := hb5.1; have hfb := hb5.2.1; have hlb := hb5.2.2
     refine ordT_m rfl rfl rfl (fun K hK => ?_)
     go_simp
     refine hK _ _ trivial ?_
     clear hK K
     refine ordT_nil ?_
     have hbe := HB2.out
     have hlo : w.heap.size + 4 ≤ w2.heap.size := by have := HB2.out.size; simp at this; omega
     have FIN : ∀ Z, Same (fun i => i ≠ w.heap.size + 2) w2 Z → Bx Z (w.heap.size + 2) (cellsLn (line0 e.kind na nc)) → EvAt e w x (w.heap.size + 2) na nc Z := fun Z hs h5 =>
       ⟨hs.bx (((((Bx.new1 rfl).alloc _).alloc _).alloc _).drew.keep HB2.out) (by simp), hs.bx ((((Bx.new1 (by simp)).alloc _).alloc _).drew.keep HB2.out) (by simp), h5, (HOW.out.same hs (fun g hg => by have h1 := (HOW.out.lt g hg).1; simp at h1 ⊢; omega)).mono (by simp; omega),
         fun g hg => by have h1 := (HOW.out.lt g hg).1; simp at h1; omega, by omega, hs.below ((belowA (belowA HBV.out _) _).drew.trans (HB2.out.mono ((belowA (belowA HBV.out _) _).drew.size))) (fun i hi => by simp; omega) (by omega)⟩
     exact ⟨rfl, _, _, _, _, _, _, _, _, _, na, nc, FIN _ (by repeat (first | (refine Same.setTail ?_ (by simp)) | (with_reducible exact Same.refl' _))) (Bx.set6 (l' := line0 e.kind na nc) hb5), rfl⟩
 case rest =>
   rintro ee a Z ⟨rfl, v8, v9, v10, v11, v12, v13, v14, v15, b5, na, nc, hev, rfl⟩
   have hmz : Z.heap[mp]? = some (.map (mapE h) 4) := (hev.bw.block mp hlm).trans HMP.out
   have hbe := hev.be.1
   have hm2 := (HM.out.keep hev.bw).1
   have hb5 := hev.c5.1; have hf5 := hev.c5.2.1; have hl5 := hev.c5.2.2
   have hbr := hev.br.1; have hfr := hev.br.2.1; have hlr := hev.br.2.2
   have HEV := hid hev; have HMZ := hid hmz
   clear hev hmz
   have hkk : e.kind = 1 ∨ e.kind = 2 ∨ e.kind = 3 ∨ e.kind = 4 ∨ e.kind = 5 ∨ e.kind = 6 := by
     have := HE.out
     simp only [evB, Bool.and_eq_true, decide_eq_true_eq] at this
     omega
   have hne5 : w.heap.size + 1 ≠ b5 := by have := HEV.out.le; omega
   obtain ⟨ek, et, es, el, eo, ev, ep, esa, esn, esc⟩ := e
   simp only at hkk HX HE HRC
   have HLN := hid (show LnAt Z w.heap.size (line0 ek na nc) ⟨ek, [x], 0, [], false, 0⟩ from ⟨⟨rfl, rfl, rfl, rfl, rfl, rfl⟩, HEV.out.on, Own.nil_ _ _ _ _ _⟩)
   rcases hkk with rfl | rfl | rfl | rfl | rfl | rfl
   · have hlk := look_1 h mp Z HMZ.out
     have hh : hasB h.t.n h.s.n h.o.n h.p.n ⟨1, et, es, el, eo, ev, ep, esa, esn, esc⟩ scan = true := by have := HE.out; simp only [evB, Bool.and_eq_true] at this; exact this.1.2
     simp only [hasB, Bool.and_eq_true, if_true] at hh
     have HC := hid (teller_begin h sn (line0 1 na nc) _ ⟨1, et, es, el, eo, ev, ep, esa, esn, esc⟩ w Z HEV.out.bw HRS.out hh.1 HLN.out (by simp))
     clear hh
     have HS : Hid (eventS tn sn on pn ⟨1, et, es, el, eo, ev, ep, esa, esn, esc⟩ scan = ⟨1, [x] ++ [nameOf sn es], el, [], false, 0⟩) := hid (by simp [eventS, HX.out])
     go_wp2_with fail
     clear hb5 hf5 hl5 hbr hfr hlr
     refine HC.out.mono ?_
     rintro en w2 ⟨l2, rfl, hl2, hb2, hk2, hg2⟩
     have h5 := HEV.out.c5.of_eq hk2.size (hk2.block b5 HEV.out.c5.2.2 (fun e => (HEV.out.fn _ e.symm).2.2 rfl) (fun e => by cases e))
     have hr := HEV.out.br.of_eq hk2.size (hk2.block _ HEV.out.br.2.2 (fun e => (HEV.out.fn _ e.symm).2.1 rfl) (fun e => by cases e))
     have hA : ∀ g, (Value.slice l2.na l2.nn l2.nc).ownBlock = some g → g ≠ w.heap.size + 1 ∧ g ≠ b5 := fun g hg => by
       rcases hg2.1 g hg with h1 | h1
       · exact ⟨(HEV.out.fn g h1).2.1, (HEV.out.fn g h1).2.2⟩
       · have := HEV.out.c5.2.2; have := HEV.out.br.2.2; constructor <;> omega
     have hB : ∀ g, (Value.slice l2.va l2.vn l2.vc).ownBlock = some g → g ≠ w.heap.size + 1 ∧ g ≠ b5 := fun g hg => by
       rcases hg2.2 g hg with h1 | h1
       · cases h1
       · have := HEV.out.c5.2.2; have := HEV.out.br.2.2; constructor <;> omega
     have FIN : Hid (∀ W', Same (fun i => i ≠ w.heap.size + 1 ∧ i ≠ b5) w2 W' → RetLn (eventS tn sn on pn ⟨1, et, es, el, eo, ev, ep, esa, esn, esc⟩ scan) w (.returned (valLn l2)) W') := hid (fun W' hs => by
       rw [HS.out]
       exact ⟨l2, rfl, ⟨hl2.1, hl2.2.1.same hs hA, hl2.2.2.same hs hB⟩, hs.below hb2 (fun i hi => by have := HEV.out.le; constructor <;> omega) hb2.size⟩)
     have hc5 := h5.1; have hf5 := h5.2.1; have hl5 := h5.2.2; have hcr := hr.1; have hfr := hr.2.1; have hlr := hr.2.2
     have hne6 : b5 ≠ w.heap.size + 1 := Ne.symm hne5
     clear hl2 hb2 hk2 hg2 h5 hr hA hB
     go_wp2_with fail
     refine bodyPost_ret (v := valLn l2) (by simp [results, Tryz.results67, go_sem, hcr]) rfl (FIN.out _ ?_)
     repeat (first | (refine Same.setTail ?_ (by simp)) | (with_reducible exact Same.refl' _))
   · have hlk := look_2 h mp Z HMZ.out
     have hh : hasB h.t.n h.s.n h.o.n h.p.n ⟨2, et, es, el, eo, ev, ep, esa, esn, esc⟩ scan = true := by have := HE.out; simp only [evB, Bool.and_eq_true] at this; exact this.1.2
     simp only [hasB, Bool.and_eq_true, decide_eq_true_eq, if_true, show ((2 : Int) = 1) = False from by decide, reduceIte] at hh
     have HC := hid (teller_write h on (line0 2 na nc) _ ⟨2, et, es, el, eo, ev, ep, esa, esn, esc⟩ w Z HEV.out.bw HRO.out hh.1.1.1 HLN.out (by simp))
     clear hh
     have HS : Hid (eventS tn sn on pn ⟨2, et, es, el, eo, ev, ep, esa, esn, esc⟩ scan = ⟨2, [x] ++ [nameOf on eo], 0, [], false, 0⟩) := hid (by simp [eventS, HX.out])
     go_wp2_with fail
     clear hb5 hf5 hl5 hbr hfr hlr
     refine HC.out.mono ?_
     rintro en w2 ⟨l2, rfl, hl2, hb2, hk2, hg2⟩
     have h5 := HEV.out.c5.of_eq hk2.size (hk2.block b5 HEV.out.c5.2.2 (fun e => (HEV.out.fn _ e.symm).2.2 rfl) (fun e => by cases e))
     have hr := HEV.out.br.of_eq hk2.size (hk2.block _ HEV.out.br.2.2 (fun e => (HEV.out.fn _ e.symm).2.1 rfl) (fun e => by cases e))
     have hA : ∀ g, (Value.slice l2.na l2.nn l2.nc).ownBlock = some g → g ≠ w.heap.size + 1 ∧ g ≠ b5 := fun g hg => by
       rcases hg2.1 g hg with h1 | h1
       · exact ⟨(HEV.out.fn g h1).2.1, (HEV.out.fn g h1).2.2⟩
       · have := HEV.out.c5.2.2; have := HEV.out.br.2.2; constructor <;> omega
     have hB : ∀ g, (Value.slice l2.va l2.vn l2.vc).ownBlock = some g → g ≠ w.heap.size + 1 ∧ g ≠ b5 := fun g hg => by
       rcases hg2.2 g hg with h1 | h1
       · cases h1
       · have := HEV.out.c5.2.2; have := HEV.out.br.2.2; constructor <;> omega
     have FIN : Hid (∀ W', Same (fun i => i ≠ w.heap.size + 1 ∧ i ≠ b5) w2 W' → RetLn (eventS tn sn on pn ⟨2, et, es, el, eo, ev, ep, esa, esn, esc⟩ scan) w (.returned (valLn l2)) W') := hid (fun W' hs => by
       rw [HS.out]
       exact ⟨l2, rfl, ⟨hl2.1, hl2.2.1.same hs hA, hl2.2.2.same hs hB⟩, hs.below hb2 (fun i hi => by have := HEV.out.le; constructor <;> omega) hb2.size⟩)
     have hc5 := h5.1; have hf5 := h5.2.1; have hl5 := h5.2.2; have hcr := hr.1; have hfr := hr.2.1; have hlr := hr.2.2
     have hne6 : b5 ≠ w.heap.size + 1 := Ne.symm hne5
     clear hl2 hb2 hk2 hg2 h5 hr hA hB
     go_wp2_with fail
     refine bodyPost_ret (v := valLn l2) (by simp [results, Tryz.results67, go_sem, hcr]) rfl (FIN.out _ ?_)
     repeat (first | (refine Same.setTail ?_ (by simp)) | (with_reducible exact Same.refl' _))
   · have hlk := look_3 h mp Z HMZ.out
     have hh : hasB h.t.n h.s.n h.o.n h.p.n ⟨3, et, es, el, eo, ev, ep, esa, esn, esc⟩ scan = true := by have := HE.out; simp only [evB, Bool.and_eq_true] at this; exact this.1.2
     simp only [hasB, Bool.and_eq_true, if_true, show ((3 : Int) = 1) = False from by decide, show ((3 : Int) = 2) = False from by decide, reduceIte] at hh
     have HC := hid (teller_read h on tn (line0 3 na nc) _ ⟨3, et, es, el, eo, ev, ep, esa, esn, esc⟩ w Z HEV.out.bw HRO.out HRT.out hh.1 hh.2 HLN.out (by simp) (by simp))
     clear hh
     have HS : Hid (eventS tn sn on pn ⟨3, et, es, el, eo, ev, ep, esa, esn, esc⟩ scan = ⟨3, [x] ++ [nameOf on eo], 0, [] ++ [toldS tn ev], false, 0⟩) := hid (by simp [eventS, HX.out])
     go_wp2_with fail
     clear hb5 hf5 hl5 hbr hfr hlr
     refine HC.out.mono ?_
     rintro en w2 ⟨l2, rfl, hl2, hb2, hk2, hg2⟩
     have h5 := HEV.out.c5.of_eq hk2.size (hk2.block b5 HEV.out.c5.2.2 (fun e => (HEV.out.fn _ e.symm).2.2 rfl) (fun e => by cases e))
     have hr := HEV.out.br.of_eq hk2.size (hk2.block _ HEV.out.br.2.2 (fun e => (HEV.out.fn _ e.symm).2.1 rfl) (fun e => by cases e))
     have hA : ∀ g, (Value.slice l2.na l2.nn l2.nc).ownBlock = some g → g ≠ w.heap.size + 1 ∧ g ≠ b5 := fun g hg => by
       rcases hg2.1 g hg with h1 | h1
       · exact ⟨(HEV.out.fn g h1).2.1, (HEV.out.fn g h1).2.2⟩
       · have := HEV.out.c5.2.2; have := HEV.out.br.2.2; constructor <;> omega
     have hB : ∀ g, (Value.slice l2.va l2.vn l2.vc).ownBlock = some g → g ≠ w.heap.size + 1 ∧ g ≠ b5 := fun g hg => by
       rcases hg2.2 g hg with h1 | h1
       · cases h1
       · have := HEV.out.c5.2.2; have := HEV.out.br.2.2; constructor <;> omega
     have FIN : Hid (∀ W', Same (fun i => i ≠ w.heap.size + 1 ∧ i ≠ b5) w2 W' → RetLn (eventS tn sn on pn ⟨3, et, es, el, eo, ev, ep, esa, esn, esc⟩ scan) w (.returned (valLn l2)) W') := hid (fun W' hs => by
       rw [HS.out]
       exact ⟨l2, rfl, ⟨hl2.1, hl2.2.1.same hs hA, hl2.2.2.same hs hB⟩, hs.below hb2 (fun i hi => by have := HEV.out.le; constructor <;> omega) hb2.size⟩)
     have hc5 := h5.1; have hf5 := h5.2.1; have hl5 := h5.2.2; have hcr := hr.1; have hfr := hr.2.1; have hlr := hr.2.2
     have hne6 : b5 ≠ w.heap.size + 1 := Ne.symm hne5
     clear hl2 hb2 hk2 hg2 h5 hr hA hB
     go_wp2_with fail
     refine bodyPost_ret (v := valLn l2) (by simp [results, Tryz.results67, go_sem, hcr]) rfl (FIN.out _ ?_)
     repeat (first | (refine Same.setTail ?_ (by simp)) | (with_reducible exact Same.refl' _))
   · have hlk := look_4 h mp Z HMZ.out
     have hh : hasB h.t.n h.s.n h.o.n h.p.n ⟨4, et, es, el, eo, ev, ep, esa, esn, esc⟩ scan = true := by have := HE.out; simp only [evB, Bool.and_eq_true] at this; exact this.1.2
     simp only [hasB, Bool.and_eq_true, List.all_eq_true, decide_eq_true_eq, if_true, show ((4 : Int) = 1) = False from by decide, show ((4 : Int) = 2) = False from by decide, show ((4 : Int) = 3) = False from by decide, reduceIte] at hh
     have hsn : esn ≤ 40 := by have := HRC.out.len; have := hh.1.2; simp only at *; omega
     have HC := hid (teller_scan h pn on tn (line0 4 na nc) _ ⟨4, et, es, el, eo, ev, ep, esa, esn, esc⟩ scan w Z HEV.out.bw HRP.out HRO.out HRT.out hh.1.1 HRC.out hh.2 HLN.out (by simp) (by simp) hsn)
     clear hh hsn
     have HS : Hid (eventS tn sn on pn ⟨4, et, es, el, eo, ev, ep, esa, esn, esc⟩ scan = ⟨4, [x] ++ [nameOf pn ep] ++ scan.map (fun q => nameOf on q.obj), 0, [] ++ scan.map (fun q => toldS tn q.v), false, 0⟩) := hid (by simp [eventS, HX.out])
     go_wp2_with fail
     clear hb5 hf5 hl5 hbr hfr hlr
     refine HC.out.mono ?_
     rintro en w2 ⟨l2, rfl, hl2, hb2, hk2, hg2⟩
     have h5 := HEV.out.c5.of_eq hk2.size (hk2.block b5 HEV.out.c5.2.2 (fun e => (HEV.out.fn _ e.symm).2.2 rfl) (fun e => by cases e))
     have hr := HEV.out.br.of_eq hk2.size (hk2.block _ HEV.out.br.2.2 (fun e => (HEV.out.fn _ e.symm).2.1 rfl) (fun e => by cases e))
     have hA : ∀ g, (Value.slice l2.na l2.nn l2.nc).ownBlock = some g → g ≠ w.heap.size + 1 ∧ g ≠ b5 := fun g hg => by
       rcases hg2.1 g hg with h1 | h1
       · exact ⟨(HEV.out.fn g h1).2.1, (HEV.out.fn g h1).2.2⟩
       · have := HEV.out.c5.2.2; have := HEV.out.br.2.2; constructor <;> omega
     have hB : ∀ g, (Value.slice l2.va l2.vn l2.vc).ownBlock = some g → g ≠ w.heap.size + 1 ∧ g ≠ b5 := fun g hg => by
       rcases hg2.2 g hg with h1 | h1
       · cases h1
       · have := HEV.out.c5.2.2; have := HEV.out.br.2.2; constructor <;> omega
     have FIN : Hid (∀ W', Same (fun i => i ≠ w.heap.size + 1 ∧ i ≠ b5) w2 W' → RetLn (eventS tn sn on pn ⟨4, et, es, el, eo, ev, ep, esa, esn, esc⟩ scan) w (.returned (valLn l2)) W') := hid (fun W' hs => by
       rw [HS.out]
       exact ⟨l2, rfl, ⟨hl2.1, hl2.2.1.same hs hA, hl2.2.2.same hs hB⟩, hs.below hb2 (fun i hi => by have := HEV.out.le; constructor <;> omega) hb2.size⟩)
     have hc5 := h5.1; have hf5 := h5.2.1; have hl5 := h5.2.2; have hcr := hr.1; have hfr := hr.2.1; have hlr := hr.2.2
     have hne6 : b5 ≠ w.heap.size + 1 := Ne.symm hne5
     clear hl2 hb2 hk2 hg2 h5 hr hA hB
     go_wp2_with fail
     refine bodyPost_ret (v := valLn l2) (by simp [results, Tryz.results67, go_sem, hcr]) rfl (FIN.out _ ?_)
     repeat (first | (refine Same.setTail ?_ (by simp)) | (with_reducible exact Same.refl' _))
   · have hlk := look_5 h mp Z HMZ.out
     have HS : Hid (eventS tn sn on pn ⟨5, et, es, el, eo, ev, ep, esa, esn, esc⟩ scan = ⟨5, [x], 0, [], false, 0⟩) := hid (by simp [eventS, HX.out])
     have FIN : Hid (∀ W', Same (fun i => i ≠ w.heap.size + 1) Z W' → RetLn (eventS tn sn on pn ⟨5, et, es, el, eo, ev, ep, esa, esn, esc⟩ scan) w (.returned (valLn (line0 5 na nc))) W') := hid (fun W' hs => by
       rw [HS.out]
       exact ⟨line0 5 na nc, rfl, ⟨HLN.out.1, HLN.out.2.1.same hs (fun g hg => (HEV.out.fn g hg).2.1), Own.nil_ _ _ _ _ _⟩, hs.below HEV.out.bw (fun i hi => by simp; omega) HEV.out.bw.size⟩)
     go_wp2_with fail
     refine bodyPost_ret (v := valLn (line0 5 na nc)) (by simp [results, Tryz.results67, go_sem, hbr]) rfl (FIN.out _ ?_)
     repeat (first | (refine Same.setTail ?_ (by simp)) | (with_reducible exact Same.refl' _))
   · have hlk := look_6 h mp Z HMZ.out
     have HS : Hid (eventS tn sn on pn ⟨6, et, es, el, eo, ev, ep, esa, esn, esc⟩ scan = ⟨6, [x], 0, [], false, 0⟩) := hid (by simp [eventS, HX.out])
     have FIN : Hid (∀ W', Same (fun i => i ≠ w.heap.size + 1) Z W' → RetLn (eventS tn sn on pn ⟨6, et, es, el, eo, ev, ep, esa, esn, esc⟩ scan) w (.returned (valLn (line0 6 na nc))) W') := hid (fun W' hs => by
       rw [HS.out]
       exact ⟨line0 6 na nc, rfl, ⟨HLN.out.1, HLN.out.2.1.same hs (fun g hg => (HEV.out.fn g hg).2.1), Own.nil_ _ _ _ _ _⟩, hs.below HEV.out.bw (fun i hi => by simp; omega) HEV.out.bw.size⟩)
     go_wp2_with fail
     refine bodyPost_ret (v := valLn (line0 6 na nc)) (by simp [results, Tryz.results67, go_sem, hbr]) rfl (FIN.out _ ?_)
     repeat (first | (refine Same.setTail ?_ (by simp)) | (with_reducible exact Same.refl' _))
end Yd
