import Derived.Test.YthkpjdgmpjhhmaaGreatDoorWords
import Derived.WalkMore
import Derived.ScopeJumps
import Derived.Scope
import Derived.Test.YthkpjdgmpjhhmaaGreatDoorProg
set_option maxRecDepth 200000
set_option maxHeartbeats 8000000
namespace Yd
open Go Go.RowKit Go.Proofs Go.Maps

def limH : Nat → Int
 | 0 => 300
 | 1 => 60
 | 2 => 300
 | _ => 60
def GlobH (w : World) : Prop := Lib.Utf8Tabs 5 6 w ∧ ∀ i, i < 4 → w.cell? ⟨3, i, none⟩ = some (.int .i64 (limH i))
theorem GlobH.below {w w' : World} (h : GlobH w) (hb : Below w.heap.size w w') : GlobH w' := by
 refine ⟨Utf8Tabs_below h.1 hb, fun i hi => ?_⟩
 rw [hb.cell (p := ⟨3, i, none⟩) (cell_lt (h.2 i hi))]; exact h.2 i hi
def HC.nm (h : HC) : Nat → Sl
 | 0 => h.t
 | 1 => h.s
 | 2 => h.o
 | _ => h.p
theorem ix_names (h : HC) (i : Nat) (hi : i < 4) (w : World) : (Instr.index 127 (.agg #[h.t.v, h.s.v, h.o.v, h.p.v]) (.int .i64 i)).run Tryz.prog w = .ok (h.nm i).v w := by
 match i, hi with
 | 0, _ => exact ixH0 h w
 | 1, _ => exact ixH1 h w
 | 2, _ => exact ixH2 h w
 | 3, _ => exact ixH3 h w
theorem max3 (a b c : Int) (w : World) : (Builtin.max_ #[3, 3, 3] 3 #[.int .i64 a, .int .i64 b, .int .i64 c]).run Tryz.prog w = .ok (.int .i64 (if c > (if b > a then b else a) then c else (if b > a then b else a))) w := by
 simp [Builtin.max_, Builtin.max2]
def nameB (ns : List Bs) : Bool := ns.all (fun s => wordB ⟨s.toArray⟩) && decide ns.Nodup
def listB (nl : Nat → List Bs) (i : Nat) : Bool := decide (((nl i).length : Int) ≤ limH i) && nameB (nl i)
def manyB (h : HC) : Bool := decide ((h.e.n : Int) ≤ 3000) && decide ((if (h.w.n : Int) > (if (h.m.n : Int) > h.d.n then (h.m.n : Int) else h.d.n) then (h.w.n : Int) else (if (h.m.n : Int) > h.d.n then (h.m.n : Int) else h.d.n)) ≤ 3000)
theorem MapS.of_eq {W W' : World} {b : Nat} {ns : List Bs} (h : MapS W b ns) (e : W'.heap[b]? = W.heap[b]?) : MapS W' b ns := by
 obtain ⟨D, hD, ⟨es, clock, hb, F, hs, hd⟩, hat⟩ := h
 exact ⟨D, hD, ⟨es, clock, e.trans hb, F, hs, hd⟩, hat⟩
theorem MapS.lt {W : World} {b : Nat} {ns : List Bs} (h : MapS W b ns) : b < W.heap.size := by
 obtain ⟨D, hD, hown, hat⟩ := h
 exact hown.lt

theorem Bx.of_eq {X Y : World} {b : Nat} {cs : Array Value} (h : Bx X b cs) (hs : X.heap.size ≤ Y.heap.size) (e : Y.heap[b]? = X.heap[b]?) : Bx Y b cs :=
 ⟨fun i => (World.cell?_of_block (a := ⟨b, i, none⟩) e).trans (h.1 i), fun i => (World.frozen?_of_block (a := ⟨b, i, none⟩) e).trans (h.2.1 i), Nat.lt_of_lt_of_le h.2.2 hs⟩
theorem wordB_len {s : Bs} (h : wordB ⟨s.toArray⟩ = true) : s.length ≤ 24 := by
 simp only [wordB, Bool.and_eq_true, decide_eq_true_eq] at h
 have := h.1.1.2
 simp [ByteArray.size] at this; omega
def Deep (w : World) (h : HC) (es : List EvC) (ds : List OrC) (ms : List MaC) (qs : List Wa) (scan : EvC → List Sn) (dn : OrC → List Int) (mn : MaC → List Int) : Prop :=
 Row w 9 encEv h.e.a h.e.n h.e.c es ∧ Row w 2 encOr h.d.a h.d.n h.d.c ds ∧ Row w 4 encMa h.m.a h.m.n h.m.c ms ∧ Row w 2 encWa h.w.a h.w.n h.w.c qs ∧
 (∀ x ∈ es, Row w 3 encSn x.sa x.sn x.sc (scan x)) ∧ (∀ x ∈ ds, Row w 1 encInt x.sa x.sn x.sc (dn x)) ∧ (∀ x ∈ ms, Row w 1 encInt x.sa x.sn x.sc (mn x))
def ordB (h : HC) (dn : OrC → List Int) (x : OrC) : Bool := toldB x.obj h.o.n && allowB h.t.n (dn x)
def matB (h : HC) (mn : MaC → List Int) (x : MaC) : Bool := toldB x.pred h.p.n && toldB x.obj h.o.n && allowB h.t.n (mn x)
def wantB (h : HC) (x : Wa) : Bool := toldB x.ses h.s.n && decide (0 ≤ x.bits) && decide (x.bits ≤ 15)
def namesB (h : HC) (nl : Nat → List Bs) : Bool := manyB h && (List.range 4).all (listB nl)
def shapedB (h : HC) (nl : Nat → List Bs) (es : List EvC) (ds : List OrC) (ms : List MaC) (qs : List Wa) (scan : EvC → List Sn) (dn : OrC → List Int) (mn : MaC → List Int) : Bool :=
 namesB h nl && es.all (fun e => evB h.t.n h.s.n h.o.n h.p.n e (scan e)) && ds.all (ordB h dn) && ms.all (matB h mn) && qs.all (wantB h)
theorem names_false {nl : Nat → List Bs} {R bb b0 d : Bool} {k : Nat} (hk : k < 4) (hbb : bb = (R && (List.range k).all (listB nl))) (hb0 : b0 = (bb && d)) (hl : listB nl k = (d && nameB (nl k)))
   (h : b0 = false ∨ nameB (nl k) = false) : (R && (List.range 4).all (listB nl)) = false := by
 cases hq : (R && (List.range 4).all (listB nl))
 · rfl
 · simp only [Bool.and_eq_true, List.all_eq_true, List.mem_range] at hq
   have h1 := hq.2 k hk
   have h2 : (List.range k).all (listB nl) = true := by simp only [List.all_eq_true, List.mem_range]; exact fun x hx => hq.2 x (by omega)
   rw [hl, Bool.and_eq_true] at h1
   rw [hb0, hbb, hq.1, h2, h1.1] at h
   simp [h1.2] at h
theorem names_step {nl : Nat → List Bs} {R bb b0 d : Bool} {k : Nat} (hbb : bb = (R && (List.range k).all (listB nl))) (hb0 : b0 = (bb && d)) (hl : listB nl k = (d && nameB (nl k)))
   (h : nameB (nl k) = true) : b0 = (R && (List.range (k + 1)).all (listB nl)) := by
 simp [List.range_succ, hb0, hbb, hl, h, Bool.and_assoc]
theorem nameB_of {ns : List Bs} (h1 : ns.all (fun s => wordB ⟨s.toArray⟩) = true) (h2 : ns.Nodup) : nameB ns = true := by simp only [nameB, h1, h2, decide_true, Bool.and_self]
theorem nameB_no1 {ns : List Bs} {x : Bs} {j : Nat} (hx : ns[j]? = some x) (hw : wordB ⟨x.toArray⟩ = false) : nameB ns = false := by
 cases hq : nameB ns
 · rfl
 · simp only [nameB, Bool.and_eq_true, List.all_eq_true] at hq
   have := hq.1 x (List.mem_of_getElem? hx); rw [hw] at this; cases this
theorem nameB_no2 {ns : List Bs} {x : Bs} {j : Nat} (hx : ns[j]? = some x) (hw : decide (x ∈ ns.take j) = true) : nameB ns = false := by
 cases hq : nameB ns
 · rfl
 · simp only [nameB, Bool.and_eq_true, decide_eq_true_eq] at hq hw
   obtain ⟨i, hi⟩ := List.getElem?_of_mem hw
   have hij : i < j := by
     have := (List.getElem?_eq_some_iff.1 hi).1; simp at this; omega
   rw [List.getElem?_take_of_lt hij] at hi
   have h1 := (List.getElem?_eq_some_iff.1 hi); have h2 := (List.getElem?_eq_some_iff.1 hx)
   obtain ⟨p1, e1⟩ := h1; obtain ⟨p2, e2⟩ := h2
   exact absurd (e1.trans e2.symm) (List.pairwise_iff_getElem.1 hq.2 i j p1 p2 hij)
theorem shaped_any (h : HC) (nl : Nat → List Bs) (es : List EvC) (ds : List OrC) (ms : List MaC) (qs : List Wa) (scan : EvC → List Sn) (dn : OrC → List Int) (mn : MaC → List Int) (w : World) (hg : GlobH w)
   (hn : ∀ i, i < 4 → Row w 1 encStr (h.nm i).a (h.nm i).n (h.nm i).c (nl i)) (hd : Deep w h es ds ms qs scan dn mn) :
   Calls Tryz.prog 59 #[valH h] w (Ret (.bool (shapedB h nl es ds ms qs scan dn mn)) w) := by
 have hmm := @run_makeMap Tryz.prog
 have hmx := max3 h.d.n h.m.n h.w.n
 go_enter Tryz.func59, Tryz.ntmps59
 obtain ⟨R, hR⟩ : ∃ R : Bool, R = manyB h := ⟨_, rfl⟩
 have HR := hid hR
 clear hR
 obtain ⟨S, hS⟩ : ∃ S : Bool, S = shapedB h nl es ds ms qs scan dn mn := ⟨_, rfl⟩
 rw [← hS]
 have HS := hid hS; have HD := hid hd
 clear hS hd
 obtain ⟨E, hE⟩ : ∃ E : Bool, E = es.all (fun e => evB h.t.n h.s.n h.o.n h.p.n e (scan e)) := ⟨_, rfl⟩
 obtain ⟨D, hD⟩ : ∃ D : Bool, D = ds.all (ordB h dn) := ⟨_, rfl⟩
 obtain ⟨M, hM⟩ : ∃ M : Bool, M = ms.all (matB h mn) := ⟨_, rfl⟩
 obtain ⟨V, hV⟩ : ∃ V : Bool, V = qs.all (wantB h) := ⟨_, rfl⟩
 have HAE : Hid (∀ W', Below w.heap.size w W' → Bx W' w.heap.size (cellsH h) → Calls Tryz.prog 99 #[.slice h.e.a h.e.n h.e.c, .func (.func 100) #[] #[.pointer (some ⟨w.heap.size, 0, none⟩)]] W' (Ret (.bool E) W')) := fun W' hb hx => by
   rw [hE]
   exact allEv h.e.a h.e.n h.e.c 100 #[.pointer (some ⟨w.heap.size, 0, none⟩)] es _ W' (HD.out.1.below hb rfl) Tryz.call100
     (fun x hxm W2 hW2 => shape2 h x (scan x) w.heap.size W2 (hx.keep hW2) ((HD.out.2.2.2.2.1 x hxm).below (hb.trans (hW2.mono hb.size)) rfl))
 have HAD : Hid (∀ W' b9, Below w.heap.size w W' → Bx W' w.heap.size (cellsH h) → Bx W' b9 #[.func (.func 95) #[] #[.pointer (some ⟨w.heap.size, 0, none⟩)]] → Calls Tryz.prog 102 #[.slice h.d.a h.d.n h.d.c, .func (.func 103) #[] #[.pointer (some ⟨w.heap.size, 0, none⟩), .pointer (some ⟨b9, 0, none⟩)]] W' (Ret (.bool D) W')) := fun W' b9 hb hx h9 => by
   rw [hD]
   exact allOr h.d.a h.d.n h.d.c 103 #[.pointer (some ⟨w.heap.size, 0, none⟩), .pointer (some ⟨b9, 0, none⟩)] ds _ W' (HD.out.2.1.below hb rfl) Tryz.call103
     (fun x hxm W2 hW2 => shape3 h x (dn x) w.heap.size b9 W2 (hx.keep hW2) (h9.keep hW2) ((HD.out.2.2.2.2.2.1 x hxm).below (hb.trans (hW2.mono hb.size)) rfl))
 have HAM : Hid (∀ W' b9, Below w.heap.size w W' → Bx W' w.heap.size (cellsH h) → Bx W' b9 #[.func (.func 95) #[] #[.pointer (some ⟨w.heap.size, 0, none⟩)]] → Calls Tryz.prog 104 #[.slice h.m.a h.m.n h.m.c, .func (.func 105) #[] #[.pointer (some ⟨w.heap.size, 0, none⟩), .pointer (some ⟨b9, 0, none⟩)]] W' (Ret (.bool M) W')) := fun W' b9 hb hx h9 => by
   rw [hM]
   exact allMa h.m.a h.m.n h.m.c 105 #[.pointer (some ⟨w.heap.size, 0, none⟩), .pointer (some ⟨b9, 0, none⟩)] ms _ W' (HD.out.2.2.1.below hb rfl) Tryz.call105
     (fun x hxm W2 hW2 => shape4 h x (mn x) w.heap.size b9 W2 (hx.keep hW2) (h9.keep hW2) ((HD.out.2.2.2.2.2.2 x hxm).below (hb.trans (hW2.mono hb.size)) rfl))
 have HAV : Hid (∀ W', Below w.heap.size w W' → Bx W' w.heap.size (cellsH h) → Calls Tryz.prog 106 #[.slice h.w.a h.w.n h.w.c, .func (.func 107) #[] #[.pointer (some ⟨w.heap.size, 0, none⟩)]] W' (Ret (.bool V) W')) := fun W' hb hx => by
   rw [hV]
   exact allWa h.w.a h.w.n h.w.c 107 #[.pointer (some ⟨w.heap.size, 0, none⟩)] qs _ W' (HD.out.2.2.2.1.below hb rfl) Tryz.call107
     (fun x hxm W2 hW2 => shape5 h x w.heap.size W2 (hx.keep hW2))
 have HSS : Hid (S = (namesB h nl && E && D && M && V)) := by rw [hE, hD, hM, hV]; exact HS.out
 clear hE hD hM hV
 have hix := ix_names h
 obtain ⟨m, hm⟩ : ∃ m : Int, m = (if (h.w.n : Int) > (if (h.m.n : Int) > h.d.n then (h.m.n : Int) else h.d.n) then (h.w.n : Int) else (if (h.m.n : Int) > h.d.n then (h.m.n : Int) else h.d.n)) := ⟨_, rfl⟩
 have HRm : Hid (R = (decide ((h.e.n : Int) ≤ 3000) && decide (m ≤ 3000))) := by rw [hm]; exact HR.out
 rw [← hm] at hmx
 clear hm
 have hB0 := (Bx.new w (cellsH h) 28)
 have HB0 := hid hB0; have HN := hid hn; have HG := hid hg
 clear hB0 hn hg
 cases he : decide ((h.e.n : Int) ≤ 3000)
 all_goals cases hm3 : decide (m ≤ 3000)
 all_goals
   have hRm : R = _ := HRm.out
   rw [he, hm3] at hRm
   simp only [Bool.and_true, Bool.and_false] at hRm
   have HRe := hid hRm; clear hRm
   go_wp2_with fail
   go_step3
   go_wp2_with fail
   go_step3
   go_wp2_with (go_at_call 61; refine (names_any h _).mono ?_; rintro e w1 ⟨rfl, hb1⟩)
   clear he hm3
   have HB1 := hid (((Below.refl w.heap.size w).alloc (Nat.le_refl _) (.cells (cellsH h) 28)).trans (hb1.mono (by simp)))
   have HX1 := hid (HB0.out.keep hb1)
   clear hb1
   go_loopw [3, 29] (fun b i wr => ∃ (k : Nat) (bb : Bool), k ≤ 4 ∧ i = .int .i64 k ∧ b = .bool bb ∧ bb = (R && (List.range k).all (listB nl)) ∧ Below w.heap.size w wr ∧ Bx wr w.heap.size (cellsH h)) (fun _ i _ => 4 - (RowKit.intOf i).toNat)
   case atStart => exact ⟨0, _, by omega, rfl, rfl, by simp [HRe.out], HB1.out, HX1.out⟩
   case round =>
     obtain ⟨k, bb, hk, rfl, rfl, hbb, hbw, hxw⟩ := hrel
     obtain ⟨wo, hwo⟩ : ∃ wo, wo = wr := ⟨_, rfl⟩
     subst hwo
     by_cases hlt : k < 4
     · have HBB := hid hbb; have HBW := hid hbw; have HXW := hid hxw
       have hlm : (wo.alloc (.map #[] 0)).cell? ⟨3, k, none⟩ = some (.int .i64 (limH k)) := ((HG.out.below hbw).below ((Below.refl _ _).alloc (Nat.le_refl _) _)).2 k hlt
       have hrow := HN.out k hlt
       obtain ⟨sl, hsl⟩ : ∃ sl, sl = h.nm k := ⟨_, rfl⟩
       have hix2 := hix k hlt
       rw [← hsl] at hrow hix2
       obtain ⟨sa, sn, sc⟩ := sl
       have hix3 : ∀ W : World, (Instr.index 127 (.agg #[h.t.v, h.s.v, h.o.v, h.p.v]) (.int .i64 k)).run Tryz.prog W = .ok (.slice sa sn sc) W := hix2
       clear hix2
       have HROW := hid hrow
       have HIX := hid hix
       obtain ⟨lim, hlim⟩ : ∃ l : Int, l = limH k := ⟨_, rfl⟩
       rw [← hlim] at hlm
       have hlist : listB nl k = (decide ((sn : Int) ≤ lim) && nameB (nl k)) := by unfold listB; rw [hrow.len, hlim]
       clear hbb hbw hxw hrow hsl hix hlim
       obtain ⟨b0, hb0⟩ : ∃ b0 : Bool, b0 = (bb && decide ((sn : Int) ≤ lim)) := ⟨_, rfl⟩
       have HFAL : Hid ((b0 = false ∨ nameB (nl k) = false) → S = false) := fun hor => by
         have := names_false hlt HBB.out hb0 hlist hor
         rw [HS.out, shapedB, namesB, ← HR.out, this]; rfl
       have HSTEP : Hid (nameB (nl k) = true → b0 = (R && (List.range (k + 1)).all (listB nl))) := names_step HBB.out hb0 hlist
       have HBZ := hid hb0; clear hb0 hlist
       cases bb
       all_goals cases hsl : decide ((sn : Int) ≤ lim)
       all_goals
         have HSL := hid hsl
         go_wp2_with fail
         clear hsl
         have HBM := hid (HBW.out.alloc HBW.out.size (.map #[] 0))
         have HXM := hid (HXW.out.alloc (.map #[] 0))
         have HM := hid (MapS.new wo)
         have HLT := hid HBW.out.size
         have HNE : Hid (w.heap.size ≠ wo.heap.size) := Nat.ne_of_lt HXW.out.2.2
         go_loopw [3, 45] (fun b i wv => ∃ (j : Nat) (bj : Bool), j ≤ sn ∧ i = .int .i64 j ∧ b = .bool bj ∧ bj = b0 ∧ (0 < j → b0 = true) ∧ ((nl k).take j).all (fun s => wordB ⟨s.toArray⟩) = true ∧ ((nl k).take j).Nodup ∧
             Below w.heap.size w wv ∧ Bx wv w.heap.size (cellsH h) ∧ MapS wv wo.heap.size ((nl k).take j)) (fun _ i _ => sn - (RowKit.intOf i).toNat)
         case atStart => exact ⟨0, _, Nat.zero_le _, rfl, rfl, by rw [HBZ.out, HSL.out]; rfl, fun h => absurd h (by decide), rfl, List.nodup_nil, HBM.out, HXM.out, HM.out⟩
         case round =>
           obtain ⟨j, bj, hj, rfl, rfl, hbj, hpos, hall, hnd, hbv, hxv, hmv⟩ := hrel
           have hle := HROW.out.le
           by_cases hjlt : j < sn
           · obtain ⟨x, b, o, hx, hab, hc⟩ := (HROW.out.below hbv rfl).at_ hjlt
             have hc0 := hc 0 _ rfl
             simp only [Nat.mul_one, Nat.add_zero] at hc0
             have hTv := (HG.out.below hbv).1
             have HX := hid hx; have HALL := hid hall; have HND := hid hnd; have HPOS := hid hpos; have HBJ := hid hbj
             have HBV := hid hbv; have HXV := hid hxv; have HMV := hid hmv
             subst hab
             have HWD := hid (word_any ⟨x.toArray⟩ wr hTv)
             clear hc hx hall hnd hpos hbj hbv hxv hmv hTv
             cases bj
             · go_wp2_with fail
               go_ret
               exact ⟨by rw [HFAL.out (.inl HBJ.out.symm)]; rfl, HBV.out.alloc HBV.out.size _⟩
             · cases hw : wordB ⟨x.toArray⟩
               · have HW := hid hw; clear hw
                 go_wp2_with fail
                 refine HWD.out.mono ?_
                 rintro e w2 ⟨rfl, hb2⟩
                 rw [HW.out]
                 have HB2 := hid (HBV.out.trans (hb2.mono HBV.out.size)); clear hb2
                 go_wp2_with fail
                 go_ret
                 exact ⟨by rw [HFAL.out (.inr (nameB_no1 HX.out HW.out))]; rfl, HB2.out.alloc HB2.out.size _⟩
               · have HW := hid hw; clear hw
                 go_wp2_with fail
                 refine HWD.out.mono ?_
                 rintro e w2 ⟨rfl, hb2⟩
                 rw [HW.out]
                 have hlk := (HMV.out.of_eq (hb2.block _ HMV.out.lt)).look x (wordB_len HW.out)
                 obtain ⟨w3, hput, hm3, hg3⟩ := (HMV.out.of_eq (hb2.block _ HMV.out.lt)).put x (wordB_len HW.out) (by have := HROW.out.le; simp; unfold maxLen; omega)
                 have HB2 := hid (HBV.out.trans (hb2.mono HBV.out.size)); have HM3 := hid hm3; have HG3 := hid hg3
                 have HX3 := hid ((HXV.out.keep hb2).of_eq hg3.size (hg3.block _ (Nat.lt_of_lt_of_le HXV.out.2.2 hb2.size) (fun e => HNE.out (by simpa using e))))
                 clear hb2 hm3 hg3
                 cases hin : decide (x ∈ (nl k).take j)
                 · rw [hin] at hlk
                   have HIN := hid hin; clear hin
                   go_wp2_with fail
                   go_roundw
                   case rel =>
                     have htk : (nl k).take (j + 1) = (nl k).take j ++ [x] := by rw [List.take_add_one, HX.out]; rfl
                     refine ⟨j + 1, true, by omega, by go_num, rfl, HBJ.out, fun _ => HBJ.out.symm, ?_, ?_, HB2.out.grown HG3.out HB2.out.size (fun i hi => by cases hi; exact HLT.out), HX3.out, by rw [htk]; exact HM3.out⟩
                     · rw [htk, List.all_append, HALL.out]; simp [HW.out]
                     · rw [htk, List.nodup_append]
                       have hni : x ∉ (nl k).take j := by simpa using HIN.out
                       exact ⟨HND.out, by simp, fun a ha b hb e => hni (by simp at hb; rw [← hb, ← e]; exact ha)⟩
                   case measure =>
                     simp [RowKit.intOf]; omega
                 · rw [hin] at hlk
                   have HIN := hid hin; clear hin
                   go_wp2_with fail
                   go_ret
                   exact ⟨by rw [HFAL.out (.inr (nameB_no2 HX.out HIN.out))]; rfl, HB2.out.alloc HB2.out.size _⟩
           · have hjn : j = sn := by omega
             have htk : (nl k).take j = nl k := List.take_of_length_le (by rw [HROW.out.len]; omega)
             rw [htk] at hall hnd
             have HE := hid (hbj.trans (HSTEP.out (nameB_of hall hnd))); have HBV := hid hbv; have HXV := hid hxv
             clear hall hnd hbj hbv hxv hmv hpos
             go_wp2_with fail
             go_roundw
             case rel => exact ⟨k + 1, bj, by omega, by go_num, rfl, HE.out, HBV.out, HXV.out⟩
             case measure => simp [RowKit.intOf]; omega
     · have hk4 : k = 4 := by omega
       subst hk4
       have HBB := hid hbb; have HBW := hid hbw; have HXW := hid hxw
       clear hbb hbw hxw
       cases bb
       · go_wp2_with fail
         go_ret
         exact ⟨by rw [HS.out, shapedB, namesB, ← HR.out, ← HBB.out]; rfl, HBW.out.alloc HBW.out.size _⟩
       · have HNT : Hid (namesB h nl = true) := by
           show namesB h nl = true
           rw [namesB, ← HR.out, ← HBB.out]
         have hx9 := HXW.out.alloc (.cells #[.func (.func 95) #[] #[.pointer (some ⟨w.heap.size, 0, none⟩)]] 167)
         have hn9 := Bx.new wo #[.func (.func 95) #[] #[.pointer (some ⟨w.heap.size, 0, none⟩)]] 167
         have hb9 := HBW.out.alloc HBW.out.size (.cells #[.func (.func 95) #[] #[.pointer (some ⟨w.heap.size, 0, none⟩)]] 167)
         have HX9 := hid hx9; have HN9 := hid hn9; have HB9 := hid hb9
         have HCE := hid (HAE.out _ hb9 hx9)
         clear hn9 hb9
         go_wp2_with fail
         refine HCE.out.mono ?_
         rintro e w2 ⟨rfl, hb2⟩
         clear hx9
         have hx2 := HX9.out.keep hb2; have hn2 := HN9.out.keep hb2; have hbb2 := HB9.out.trans (hb2.mono HB9.out.size)
         have HX2 := hid hx2; have HN2 := hid hn2; have HB2 := hid hbb2
         have HCD := hid (HAD.out _ _ hbb2 hx2 hn2)
         clear hn2 hbb2 hb2
         cases E
         · go_wp2_with fail
           go_ret
           exact ⟨by rw [HSS.out]; simp, HB2.out⟩
         go_wp2_with fail
         refine HCD.out.mono ?_
         rintro e w3 ⟨rfl, hb3⟩
         clear hx2
         have hx3 := HX2.out.keep hb3; have hn3 := HN2.out.keep hb3; have hbb3 := HB2.out.trans (hb3.mono HB2.out.size)
         have HX3 := hid hx3; have HN3 := hid hn3; have HB3 := hid hbb3
         have HCM := hid (HAM.out _ _ hbb3 hx3 hn3)
         clear hn3 hbb3 hb3
         cases D
         · go_wp2_with fail
           go_ret
           exact ⟨by rw [HSS.out]; simp, HB3.out⟩
         go_wp2_with fail
         refine HCM.out.mono ?_
         rintro e w4 ⟨rfl, hb4⟩
         clear hx3
         have hx4 := HX3.out.keep hb4; have hbb4 := HB3.out.trans (hb4.mono HB3.out.size)
         have HB4 := hid hbb4
         have HCV := hid (HAV.out _ hbb4 hx4)
         clear hbb4 hb4
         cases M
         · go_wp2_with fail
           go_ret
           exact ⟨by rw [HSS.out]; simp, HB4.out⟩
         go_wp2_with fail
         refine HCV.out.mono ?_
         rintro e w5 ⟨rfl, hb5⟩
         clear hx4
         have HB5 := hid (HB4.out.trans (hb5.mono HB4.out.size))
         clear hb5
         go_wp2_with fail
         go_ret
         exact ⟨by rw [HSS.out, HNT.out]; simp, HB5.out⟩
end Yd
