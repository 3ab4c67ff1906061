import Derived.Test.YthkpjdgmpjhhmaaGreatDoorLine0
import Derived.Test.YthkpjdgmpjhhmaaGreatDoorGround
import Derived.Test.YthkpjdgmpjhhmaaGreatDoorProg
import Derived.Test.YthkpjdgmpjhhmaaGreatDoorLineC
set_option maxRecDepth 200000
set_option maxHeartbeats 8000000
namespace Yd
open Go Go.RowKit Go.Proofs

theorem Bx.grown {X w' : World} {b : Nat} {cs : Array Value} {row : Option Nat} (h : Bx X b cs) (hg : X.grownBy w' row) (hne : row ≠ some b) : Bx w' b cs :=
 h.of_eq hg.size (hg.block b h.2.2 (fun e => hne e.symm))
theorem Bx.new1 {X : World} {b : Nat} {cs : Array Value} {T : TypeId} (h : X.heap.size = b) : Bx (X.alloc (.cells cs T)) b cs := h ▸ Bx.new X cs T
theorem Row.str1 (w : World) (s : Bs) : Row (w.alloc (.cells #[.string ⟨s.toArray⟩] 9)) 1 encStr (some ⟨w.heap.size, 0, none⟩) 1 1 [s] :=
 (Own.new (hc := cInsStr) w w.heap.size 9 #[.string ⟨s.toArray⟩] [s] (Nat.le_refl _) rfl (by simp [maxLen])).row (by simp)

theorem Row.strN {X : World} {g : Nat} (h : X.heap.size = g) (s : Bs) : Row (X.alloc (.cells #[.string ⟨s.toArray⟩] 9)) 1 encStr (some ⟨g, 0, none⟩) 1 1 [s] := h ▸ Row.str1 X s
theorem Row.drew {α : Type} {w : World} {k : Nat} {enc : α → List Value} {a : Option Addr} {n c : Nat} {xs : List α} (h : Row w k enc a n c xs) : Row w.drew k enc a n c xs := h

def nameOf (ns : List Bs) (t : Int) : Bs := ns.getD t.toNat []
theorem nameOf_at {ns : List Bs} {k : Nat} {s : Bs} (h : ns[k]? = some s) : nameOf ns (k : Int) = s := by
 unfold nameOf; rw [Int.toNat_natCast, List.getD_eq_getElem?_getD, h]; rfl
def toldS (tn : List Bs) (v : Ver) : To := if v.k = 0 then ⟨[], 0⟩ else ⟨nameOf tn v.t, v.k⟩

theorem teller_told (h : HC) (v : Ver) (tn : List Bs) (w : World) (hr : Row w 1 encStr h.t.a h.t.n h.t.c tn) (hv : v.k = 0 ∨ (0 ≤ v.t ∧ v.t < h.t.n)) :
   Calls Tryz.prog 111 #[valH h, .agg #[.int .i64 v.t, .int .i64 v.k]] w (Ret (valTo (toldS tn v)) w) := by
 by_cases hk : v.k = 0
 · have hq : toldS tn v = ⟨[], 0⟩ := by unfold toldS; rw [if_pos hk]
   rw [hq]
   obtain ⟨vt, vk⟩ := v
   simp only at hk
   subst hk
   clear hq hv hr
   go_enter Tryz.func111, Tryz.ntmps111
   go_wp2_with fail
   refine bodyPost_ret (v := valTo ⟨[], 0⟩) (by simp [results, Tryz.results111, go_sem]) rfl ⟨rfl, (((Below.refl _ _).alloc (Nat.le_refl _) _).alloc (by simp) _).alloc (by simp; omega) _⟩
 · have hv' := hv.resolve_left hk
   obtain ⟨tt, htt⟩ : ∃ tt : Nat, v.t = tt := ⟨v.t.toNat, by omega⟩
   obtain ⟨s, b, o, hx, hab, hc⟩ := hr.at_ (i := tt) (by omega)
   have hq : toldS tn v = ⟨s, v.k⟩ := by unfold toldS; rw [if_neg hk, htt, nameOf_at hx]
   rw [hq]
   have hc0 := hc 0 _ rfl
   simp only [Nat.mul_one, Nat.add_zero] at hc0
   have hle := hr.le
   clear hq hc hv hx hr
   obtain ⟨vt, vk⟩ := v
   simp only at htt hk hv'
   subst htt
   have hlt : (tt : Int) < h.t.n := hv'.2
   have hkb : (vk == 0) = false := beq_eq_false_iff_ne.2 hk
   clear hv' hk
   have hb := cell_lt hc0
   simp only at hb
   have HAB := hid hab; clear hab
   go_enter Tryz.func111, Tryz.ntmps111
   go_wp2_with fail
   have hcs : (((w.alloc (.cells (cellsH h) 90)).alloc (.cells #[.int .i64 tt, .int .i64 vk] 46)).alloc (.cells #[.string ByteArray.empty, .int .i64 0] 98)).cell? ⟨b, o + tt, none⟩ = some (.string ⟨s.toArray⟩) :=
     ((((Below.refl w.heap.size w).alloc (Nat.le_refl _) _).alloc (by simp) _).alloc (by simp; omega) _).cell (p := ⟨b, o + tt, none⟩) hb ▸ hc0
   refine wp_region_ordC 10 [(0, 0), (1, 0), (2, 0), (3, 0), (4, 0), (5, 0), (6, 0), (7, 0), (8, 0), (9, 0), (10, 2)] (fun _ => True) (fun W' => W'.cell? ⟨w.heap.size, 0, none⟩ = some (.slice (some ⟨b, o, none⟩) h.t.n h.t.c) ∧ W'.cell? ⟨w.heap.size + 1, 0, none⟩ = some (.int .i64 tt) ∧ W'.cell? ⟨w.heap.size + 1, 1, none⟩ = some (.int .i64 vk) ∧ W'.cell? ⟨b, o + tt, none⟩ = some (.string ⟨s.toArray⟩)) (by kernel_rfl) (by kernel_rfl) (trivial) (⟨((((Bx.new1 rfl).alloc _).alloc _).1 0).trans (by rw [← HAB.out]; rfl), ((Bx.new1 (by simp)).alloc _).1 0, ((Bx.new1 (by simp)).alloc _).1 1, hcs⟩) ?_
   repeat ((first | refine ordC_skip rfl rfl ?_ | refine ordC_skip1 rfl rfl ?_ | ((first | refine ordC_q rfl rfl ?_ | refine ordC_p rfl rfl ?_); apply Exists.intro; refine ⟨fun wS hS => ?_, ?_⟩; (go_simp; try with_reducible rfl))); simp only [Act.put, List.setIfInBounds_toArray, List.set_cons_zero, List.set_cons_succ])
   refine ordC_m rfl rfl rfl (fun K hK => ?_)
   go_simp
   refine hK _ _ trivial ?_
   clear hK K
   refine ordC_nil ?_
   go_wp2_with fail
   refine bodyPost_ret (v := valTo ⟨s, vk⟩) (by simp [results, Tryz.results111, go_sem]) rfl ⟨rfl, ((((Below.refl _ _).alloc (Nat.le_refl _) _).alloc (by simp) _).alloc (by simp; omega) _).drew⟩

def RetNames (w0 : World) (ns : List Bs) (e : Ending) (w' : World) : Prop := ∃ a c, e = .returned (.slice a ns.length c) ∧ Own w' w0.heap.size 9 1 encStr (.slice a ns.length c) ns ∧ Below w0.heap.size w0 w'
theorem of_any (h : HC) (tn : List Bs) (a : Option Addr) (n c : Nat) (ts : List Int) (na : Option Addr) (nc : Nat) (names : List Bs) (w0 w : World) (hb : Below w0.heap.size w0 w)
   (hr : Row w0 1 encInt a n c ts) (ht : Row w0 1 encStr h.t.a h.t.n h.t.c tn) (hts : ∀ t ∈ ts, toldB t h.t.n = true)
   (ho : Own w w0.heap.size 9 1 encStr (.slice na names.length nc) names) (hl : names.length + n ≤ 100000) :
   Calls Tryz.prog 68 #[valH h, .slice a n c, .slice na names.length nc] w (RetNames w0 (names ++ ts.map (nameOf tn))) := by
 have HB := hid hb; have HR := hid hr; have HT := hid ht; have HTS := hid hts; have HO := hid ho; have HL := hid hl
 obtain ⟨i, z, hi, hz, hsize, hby', hzs⟩ := partsStr
 have HI := hid (⟨hi, hz, hsize, hby', hzs⟩ : _ ∧ _ ∧ _ ∧ _ ∧ _)
 have hle := hr.le
 have htle := ht.le
 clear hb hr ht hts ho hl hi hz hsize hby' hzs
 go_enter Tryz.func68, Tryz.ntmps68
 go_wp2_with fail
 go_loopw [2, 11] (fun v i wr => ∃ (k : Nat) (a0 : Option Addr) (c0 : Nat), k ≤ n ∧ v = .slice a0 (names.length + k) c0 ∧ i = .int .i64 k ∧ Own wr w0.heap.size 9 1 encStr (.slice a0 (names.length + k) c0) (names ++ (ts.take k).map (nameOf tn)) ∧
     Below w0.heap.size w0 wr ∧ Bx wr w.heap.size (cellsH h) ∧ (Value.slice a0 (names.length + k) c0).ownBlock ≠ some w.heap.size) (fun _ i _ => n - (RowKit.intOf i).toNat)
 case atStart =>
   exact ⟨0, na, nc, Nat.zero_le _, rfl, rfl, by simpa using HO.out.alloc _, HB.out.alloc HB.out.size _, Bx.new1 rfl, fun e => absurd (HO.out.lt _ e).2 (Nat.lt_irrefl _)⟩
 case round =>
   obtain ⟨k, a0, c0, hk, rfl, rfl, how, hbw, hbx, hne⟩ := hrel
   by_cases hlt : k < n
   · obtain ⟨t, b, o, hx, rfl, hc⟩ := (HR.out.below hbw rfl).at_ hlt
     have hc0 := hc 0 _ rfl
     simp only [Nat.mul_one, Nat.add_zero] at hc0
     obtain ⟨ht0, htn⟩ := told_bd (HTS.out t (List.mem_of_getElem? hx))
     obtain ⟨tt, rfl⟩ : ∃ tt : Nat, t = tt := ⟨t.toNat, by omega⟩
     have htt : tt < h.t.n := by omega
     obtain ⟨s, b2, o2, hx2, hab2, hc2⟩ := (HT.out.below hbw rfl).at_ htt
     have hc3 := hc2 0 _ rfl
     simp only [Nat.mul_one, Nat.add_zero] at hc3
     have hch : wr.cell? ⟨w.heap.size, 0, none⟩ = some (.slice (some ⟨b2, o2, none⟩) h.t.n h.t.c) := (hbx.1 0).trans (by rw [← hab2]; rfl)
     have hmap : Hid ((names ++ (ts.take k).map (nameOf tn)) ++ [s] = names ++ (ts.take (k + 1)).map (nameOf tn)) := by
       rw [List.take_add_one, hx]
       exact hid (by simp [nameOf_at hx2])
     have hkl : k ≤ ts.length := by rw [HR.out.len]; omega
     have HN1 : Hid ((names ++ (ts.take k).map (nameOf tn)).length + 1 = names.length + k + 1) := hid (by rw [List.length_append, List.length_map, List.length_take, Nat.min_eq_left hkl])
     have HN2 : Hid ((names.length + k + 1) * 16 ≤ 140737488355328) := hid (by have := HL.out; omega)
     have HN3 : Hid (names.length + k + 1 ≤ maxLen) := hid (by have := HL.out; unfold maxLen; omega)
     have HN4 : Hid (w0.heap.size ≤ (wr.alloc (.cells #[.string ⟨s.toArray⟩] 9)).heap.size) := hid (by have := hbw.size; simp; omega)
     have hlw := hbx.2.2
     have HOW := hid how; have HBW := hid hbw; have HBX := hid hbx; have HNE := hid hne
     clear hc hc2 hx hx2 hab2 how hbw hbx hne ht0 htn hkl
     go_wp2_with (at_builtin; refine wpList_app rfl _ _ 22 rfl i z 16 Tryz.underlying22 HI.out.1 HI.out.2.1 HI.out.2.2.1 HI.out.2.2.2.1 HI.out.2.2.2.2 rfl (HOW.out.alloc _) (some ⟨wr.heap.size, 0, none⟩) 1 1 (names.length + k + 1) [s] rfl (Row.str1 wr s) HN1.out HN2.out HN3.out HN4.out ?_; intro a' c' w1 hown1 hg1 hat1)
     have hne1 : (Value.slice a' (names.length + k + 1) c').ownBlock ≠ some w.heap.size := by
       rcases hat1 with h1 | h1
       · rw [h1]; exact HNE.out
       · rw [h1]; simp; omega
     rw [hmap.out] at hown1
     have HR1 := hid (⟨hown1, below_app (HBW.out.alloc HBW.out.size _) (HOW.out.alloc _) (Nat.le_refl _) HN4.out hg1, (HBX.out.alloc _).grown hg1 HNE.out, hne1⟩ : _ ∧ _ ∧ _ ∧ _)
     clear hown1 hg1 hat1 hne1
     go_roundw
     case rel => exact ⟨k + 1, a', c', by omega, rfl, by go_num, HR1.out⟩
     case measure => simp [RowKit.intOf]; omega
   · obtain rfl : k = n := by omega
     have htk : ts.take k = ts := List.take_of_length_le (by rw [HR.out.len]; exact Nat.le_refl _)
     rw [htk] at how
     have hln : names.length + k = (names ++ ts.map (nameOf tn)).length := by rw [List.length_append, List.length_map, HR.out.len]
     have HOW := hid how; have HBW := hid hbw; have HLN := hid hln
     clear how hbw hbx hne htk hln
     go_wp2_with fail
     go_ret
     rw [HLN.out]
     exact ⟨a0, c0, rfl, by rw [← HLN.out]; exact HOW.out, HBW.out⟩
end Yd


namespace Yd
open Go Go.RowKit Go.Proofs

theorem cellA {X : World} {p : Addr} {v : Value} (o : Obj) (h : X.cell? p = some v) : (X.alloc o).cell? p = some v := (((Below.refl X.heap.size X).alloc (Nat.le_refl _) o).cell (cell_lt h)).trans h
theorem cellS {X : World} {p : Addr} {v u : Value} {b o : Nat} (h : X.cell? p = some v) (hb : p.block ≠ b) : (X.setCell ⟨b, o, none⟩ u).cell? p = some v := by
 rw [World.cell?_setCell_other _ _ _ _ (fun e => hb (by rw [← e]))]; exact h

theorem Same.refl' {A : Nat → Prop} (X : World) : Same A X X := ⟨rfl, rfl, rfl, Nat.le_refl _, fun _ _ _ => rfl⟩
theorem Same.setTail {A : Nat → Prop} {X Y : World} {b o : Nat} {v : Value} (h : Same A X Y) (hb : ¬ A b) : Same A X (Y.setCell ⟨b, o, none⟩ v) :=
 ⟨h.os, h.tape, h.output, by have := h.size; simpa [World.setCell] using this, fun i hi hl => (Below.heap_setCell _ _ _ _ (fun e => by have e' : i = b := e; rw [e'] at hi; exact hb hi)).trans (h.block i hi hl)⟩
theorem Same.drewTail {A : Nat → Prop} {X Y : World} (h : Same A X Y) : Same A X Y.drew := ⟨h.os, h.tape, h.output, h.size, h.block⟩
section
variable {α : Type} {enc : α → List Value} {k : Nat} {w w' : World} {B : Nat} {E : TypeId} {v : Value} {xs : List α}
theorem Own.grown (h : Own w B E k enc v xs) {row : Option Nat} (hg : w.grownBy w' row) (hne : ∀ g, v.ownBlock = some g → row ≠ some g) : Own w' B E k enc v xs :=
 h.block fun g hg' => hg.block g (h.lt g hg').2 (fun e => hne g hg' e.symm)
theorem Own.same (h : Own w B E k enc v xs) {A : Nat → Prop} (hs : Same A w w') (hA : ∀ g, v.ownBlock = some g → A g) : Own w' B E k enc v xs := h.block fun g hg => hs.block g (hA g hg) (h.lt g hg).2
theorem Own.tag (h : Own w B E k enc v xs) {g : Nat} (hg : v.ownBlock = some g) : ∃ cs fz, w.heap[g]? = some (.cells cs E fz) := by
 rcases h.2 with ⟨rfl, _⟩ | ⟨g', cap, cur, rfl, _, hh, _⟩
 · cases hg
 · obtain rfl : g' = g := by simpa [Value.ownBlock] using hg
   exact ⟨_, _, hh⟩
theorem Own.apart {β : Type} {enc' : β → List Value} {k' B' : Nat} {E' : TypeId} {v' : Value} {ys : List β} (h : Own w B E k enc v xs) (h' : Own w B' E' k' enc' v' ys) (hE : E ≠ E') : ∀ g, v.ownBlock = some g → v'.ownBlock ≠ some g := fun g hg hg' => by
 obtain ⟨cs, fz, e1⟩ := h.tag hg
 obtain ⟨cs', fz', e2⟩ := h'.tag hg'
 rw [e1] at e2
 cases e2
 exact hE rfl
theorem Own.far (h : Own w B E k enc v xs) {i : Nat} (hi : i < B ∨ w.heap.size ≤ i) : some i ≠ v.ownBlock := fun e => by
 have := h.lt i e.symm; omega
theorem Own.far' (h : Own w B E k enc v xs) {i : Nat} (hi : i < B ∨ w.heap.size ≤ i) : v.ownBlock ≠ some i := fun e => by
 have := h.lt i e; omega
end
structure Kept (w : World) (l : LnC) (w' : World) : Prop where
 size : w.heap.size ≤ w'.heap.size
 block : ∀ i, i < w.heap.size → some i ≠ (Value.slice l.na l.nn l.nc).ownBlock → some i ≠ (Value.slice l.va l.vn l.vc).ownBlock → w'.heap[i]? = w.heap[i]?
def Grew (w : World) (l l' : LnC) : Prop :=
 (∀ g, (Value.slice l'.na l'.nn l'.nc).ownBlock = some g → (Value.slice l.na l.nn l.nc).ownBlock = some g ∨ w.heap.size ≤ g) ∧ (∀ g, (Value.slice l'.va l'.vn l'.vc).ownBlock = some g → (Value.slice l.va l.vn l.vc).ownBlock = some g ∨ w.heap.size ≤ g)
def RetLn0 (w0 w : World) (l : LnC) (s : LnS) (e : Ending) (w' : World) : Prop := ∃ l', e = .returned (valLn l') ∧ LnAt w' w0.heap.size l' s ∧ Below w0.heap.size w0 w' ∧ Kept w l w' ∧ Grew w l l'

theorem teller_begin (h : HC) (sn : List Bs) (l : LnC) (s : LnS) (e : EvC) (w0 w : World) (hb : Below w0.heap.size w0 w) (hr : Row w0 1 encStr h.s.a h.s.n h.s.c sn) (he : toldB e.ses h.s.n = true) (hl : LnAt w w0.heap.size l s) (hlen : s.names.length ≤ 1000) :
   Calls Tryz.prog 63 #[valH h, valLn l, valEv e] w (RetLn0 w0 w l { s with names := s.names ++ [nameOf sn e.ses], lvl := e.lvl }) := by
 obtain ⟨hk0, hkn⟩ := told_bd he
 obtain ⟨kk, hkk⟩ : ∃ kk : Nat, e.ses = kk := ⟨e.ses.toNat, by omega⟩
 obtain ⟨x, b, o, hx, hab, hc⟩ := hr.at_ (i := kk) (by omega)
 have hcw := hc 0 _ rfl
 simp only [Nat.mul_one, Nat.add_zero] at hcw
 have HBLT := hid (show b < w0.heap.size from cell_lt hcw)
 have hcb := bget hb rfl hcw
 rw [show nameOf sn e.ses = x by rw [hkk, nameOf_at hx]]
 have hkl : kk < h.s.n := by omega
 have hle := hr.le
 obtain ⟨eqs, hon, hov⟩ := hl
 obtain ⟨i, z, hi, hz, hsize, hby', hzs⟩ := partsStr
 have HI := hid (⟨hi, hz, hsize, hby', hzs⟩ : _ ∧ _ ∧ _ ∧ _ ∧ _)
 have HAB := hid hab; have HEQ := hid eqs; have HON := hid hon; have HOV := hid hov; have HB := hid hb
 have HN2 : Hid ((s.names.length + 1) * 16 ≤ 140737488355328) := hid (by omega)
 have HN3 : Hid (s.names.length + 1 ≤ maxLen) := hid (by unfold maxLen; omega)
 have HF : Hid (∀ i, (i < w0.heap.size ∨ w.heap.size ≤ i) → some i ≠ (Value.slice l.na l.nn l.nc).ownBlock) := hid (fun i hi => hon.far hi)
 have HAP := hid (hov.apart hon (by decide))
 obtain ⟨ek, et, es, el, eo, ev, ep, esa, esn, esc⟩ := e
 simp only at hkk
 subst hkk
 clear hb hr he hon hov eqs hx hab hc hcw hi hz hsize hby' hzs hk0 hkn
 go_enter Tryz.func63, Tryz.ntmps63
 go_wp2_with fail
 have HS1 := hid (show ((((w.alloc (.cells (cellsH h) 90)).alloc (.cells (cellsLn l) 41)).alloc (.cells (cellsEv ⟨ek, et, kk, el, eo, ev, ep, esa, esn, esc⟩) 49)).alloc (.cells #[.int .i64 0, .slice none 0 0, .int .i64 0, .slice none 0 0, .bool false, .int .i64 0] 41)).cell? ⟨w.heap.size + 1, 1, none⟩ = some (.slice l.na l.nn l.nc) from (((Bx.new1 (by simp)).alloc _).alloc _).1 1)
 have HS2 := hid (show ((((w.alloc (.cells (cellsH h) 90)).alloc (.cells (cellsLn l) 41)).alloc (.cells (cellsEv ⟨ek, et, kk, el, eo, ev, ep, esa, esn, esc⟩) 49)).alloc (.cells #[.int .i64 0, .slice none 0 0, .int .i64 0, .slice none 0 0, .bool false, .int .i64 0] 41)).cell? ⟨w.heap.size, 1, none⟩ = some (.slice (some ⟨b, o, none⟩) h.s.n h.s.c) from (((((Bx.new1 rfl).alloc _).alloc _).alloc _).1 1).trans (by rw [← HAB.out]; rfl))
 have HS3 := hid (show ((((w.alloc (.cells (cellsH h) 90)).alloc (.cells (cellsLn l) 41)).alloc (.cells (cellsEv ⟨ek, et, kk, el, eo, ev, ep, esa, esn, esc⟩) 49)).alloc (.cells #[.int .i64 0, .slice none 0 0, .int .i64 0, .slice none 0 0, .bool false, .int .i64 0] 41)).cell? ⟨w.heap.size + 2, 2, none⟩ = some (.int .i64 kk) from ((Bx.new1 (by simp)).alloc _).1 2)
 have HS4 := hid (show ((((w.alloc (.cells (cellsH h) 90)).alloc (.cells (cellsLn l) 41)).alloc (.cells (cellsEv ⟨ek, et, kk, el, eo, ev, ep, esa, esn, esc⟩) 49)).alloc (.cells #[.int .i64 0, .slice none 0 0, .int .i64 0, .slice none 0 0, .bool false, .int .i64 0] 41)).cell? ⟨b, o + kk, none⟩ = some (.string ⟨x.toArray⟩) from cellA _ (cellA _ (cellA _ (cellA _ hcb))))
 have HS5 := hid (show ((((w.alloc (.cells (cellsH h) 90)).alloc (.cells (cellsLn l) 41)).alloc (.cells (cellsEv ⟨ek, et, kk, el, eo, ev, ep, esa, esn, esc⟩) 49)).alloc (.cells #[.int .i64 0, .slice none 0 0, .int .i64 0, .slice none 0 0, .bool false, .int .i64 0] 41)).cell? ⟨w.heap.size + 2, 3, none⟩ = some (.int .i64 el) from ((Bx.new1 (by simp)).alloc _).1 3)
 refine wp_region_ordC 13 [(0, 0), (1, 0), (2, 0), (3, 0), (4, 0), (5, 0), (6, 0), (7, 0), (8, 0), (11, 1), (12, 1), (9, 2), (10, 2), (13, 1), (14, 2), (15, 1), (16, 2)] (fun W' => W'.cell? ⟨w.heap.size + 2, 3, none⟩ = some (.int .i64 el)) (fun W' => W'.cell? ⟨w.heap.size + 1, 1, none⟩ = some (.slice l.na l.nn l.nc) ∧ W'.cell? ⟨w.heap.size, 1, none⟩ = some (.slice (some ⟨b, o, none⟩) h.s.n h.s.c) ∧ W'.cell? ⟨w.heap.size + 2, 2, none⟩ = some (.int .i64 kk) ∧ W'.cell? ⟨b, o + kk, none⟩ = some (.string ⟨x.toArray⟩)) (by kernel_rfl) (by kernel_rfl) (HS5.out) (⟨HS1.out, HS2.out, HS3.out, HS4.out⟩) ?_
 repeat ((first | refine ordC_skip rfl rfl ?_ | refine ordC_skip1 rfl rfl ?_ | ((first | refine ordC_q rfl rfl ?_ | refine ordC_p rfl rfl ?_); apply Exists.intro; refine ⟨fun wS hS => ?_, ?_⟩; (go_simp; try with_reducible rfl))); simp only [Act.put, List.setIfInBounds_toArray, List.set_cons_zero, List.set_cons_succ])
 refine ordC_l rfl rfl (fun K hK => ?_)
 go_simp
 refine hK _ _ ⟨cellA _ HS5.out, ⟨cellA _ HS1.out, cellA _ HS2.out, cellA _ HS3.out, cellA _ HS4.out⟩⟩ ?_
 clear hK K
 refine ordC_l rfl rfl (fun K hK => ?_)
 refine wp_app _ _ 22 rfl i z 16 Tryz.underlying22 HI.out.1 HI.out.2.1 HI.out.2.2.1 HI.out.2.2.2.1 HI.out.2.2.2.2 rfl (((((((HON.out.alloc _).alloc _).alloc _).alloc _).alloc _).drew)) (some ⟨w.heap.size + 4, 0, none⟩) 1 1 (s.names.length + 1) [x] rfl (Row.drew (Row.strN (by simp) x)) (rfl) (HN2.out) (HN3.out) (by have := HB.out.size; simp; omega) ?_
 intro a' c' w2 hown2 hg2 hat2
 have HG := hid hg2; have HA := hid hat2; have HW := hid hown2
 refine hK _ _ ⟨hg2.cell (cellA _ HS5.out) (HF.out _ (.inr (by simp))), ⟨hg2.cell (cellA _ HS1.out) (HF.out _ (.inr (by simp))), hg2.cell (cellA _ HS2.out) (HF.out _ (.inr (by simp))), hg2.cell (cellA _ HS3.out) (HF.out _ (.inr (by simp))), hg2.cell (cellA _ HS4.out) (HF.out _ (.inl HBLT.out))⟩⟩ ?_
 clear hK K hown2 hat2
 have hbl : Bx w2 (w.heap.size + 1) (cellsLn l) := by
   refine Bx.grown ?_ hg2 (fun e => HF.out _ (.inr (by simp)) e.symm)
   exact ((((Bx.new1 (by simp)).alloc _).alloc _).alloc _).drew
 have hbr : Bx w2 (w.heap.size + 3) #[.int .i64 0, .slice none 0 0, .int .i64 0, .slice none 0 0, .bool false, .int .i64 0] := by
   refine Bx.grown ?_ hg2 (fun e => HF.out _ (.inr (by simp)) e.symm)
   exact ((Bx.new1 (by simp)).alloc _).drew
 have hc1 := hbl.1; have hf1 := hbl.2.1; have hl1 := hbl.2.2; have hc3 := hbr.1; have hf3 := hbr.2.1; have hl3 := hbr.2.2
 have hA1 : ∀ g, (Value.slice a' (s.names.length + 1) c').ownBlock = some g → g ≠ w.heap.size + 1 ∧ g ≠ w.heap.size + 3 := by
   intro g hg
   rcases HA.out with h1 | h1
   · have := (HON.out.lt g (h1.symm.trans hg)).2
     omega
   · rw [h1] at hg; simp at hg; omega
 have hov2 : Own w2 w0.heap.size 98 2 encTo (.slice l.va l.vn l.vc) s.vers := (((((((HOV.out.alloc _).alloc _).alloc _).alloc _).alloc _).drew)).grown hg2 (fun g hg e => HAP.out g hg e)
 have hbe : Below w0.heap.size w0 w2 := below_app (belowA (belowA (belowA (belowA (belowA HB.out _) _) _) _) _).drew ((((((HON.out.alloc _).alloc _).alloc _).alloc _).alloc _).drew) (Nat.le_refl _) (by have := HB.out.size; simp; omega) hg2
 have hsz : w.heap.size ≤ w2.heap.size ∧ ∀ i, i < w.heap.size → some i ≠ (Value.slice l.na l.nn l.nc).ownBlock → w2.heap[i]? = w.heap[i]? := ⟨Nat.le_trans (belowA (belowA (belowA (belowA (belowA (Below.refl w.heap.size w) _) _) _) _) _).drew.size hg2.size, fun i hi h1 => (hg2.block i (Nat.lt_of_lt_of_le hi (belowA (belowA (belowA (belowA (belowA (Below.refl w.heap.size w) _) _) _) _) _).drew.size) h1).trans ((belowA (belowA (belowA (belowA (belowA (Below.refl w.heap.size w) _) _) _) _) _).drew.block i hi)⟩
 have hgr : Grew w l { l with na := a', nn := s.names.length + 1, nc := c', lvl := el } := ⟨fun g hg => by
   rcases HA.out with h1 | h1
   · exact .inl (h1.symm.trans hg)
   · right; have h2 := h1.symm.trans hg; simp at h2; omega, fun g hg => .inl hg⟩
 have FIN : Hid (∀ W', Same (fun i => i ≠ w.heap.size + 1 ∧ i ≠ w.heap.size + 3) w2 W' → RetLn0 w0 w l { s with names := s.names ++ [x], lvl := el } (.returned (valLn { l with na := a', nn := s.names.length + 1, nc := c', lvl := el })) W') := hid (fun W' hs =>
   ⟨_, rfl, ⟨⟨HEQ.out.1, rfl, HEQ.out.2.2.1, HEQ.out.2.2.2.1, by simp, HEQ.out.2.2.2.2.2⟩, HW.out.same hs hA1, hov2.same hs (fun g hg => by have := (HOV.out.lt g hg).2; constructor <;> omega)⟩, hs.below hbe (fun i hi => by have := HB.out.size; constructor <;> omega) hbe.size, ⟨Nat.le_trans hsz.1 hs.size, fun i hi h1 _ => (hs.block i (by constructor <;> omega) (Nat.lt_of_lt_of_le hi hsz.1)).trans (hsz.2 i hi h1)⟩, hgr⟩)
 have HBL := hid hbl; have HBR := hid hbr; clear hbl hbr hg2 hA1 hov2 hbe hsz hgr
 repeat ((first | refine ordC_skip rfl rfl ?_ | refine ordC_skip1 rfl rfl ?_ | ((first | refine ordC_q rfl rfl ?_ | refine ordC_p rfl rfl ?_); apply Exists.intro; refine ⟨fun wS hS => ?_, ?_⟩; (go_simp; try with_reducible rfl))); simp only [Act.put, List.setIfInBounds_toArray, List.set_cons_zero, List.set_cons_succ])
 refine ordC_m rfl rfl rfl (fun K hK => ?_)
 go_simp
 refine hK _ _ (cellS (HG.out.cell (cellA _ HS5.out) (HF.out _ (.inr (by simp)))) (by simp)) ?_
 clear hK K
 repeat ((first | refine ordC_skip rfl rfl ?_ | refine ordC_skip1 rfl rfl ?_ | ((first | refine ordC_q rfl rfl ?_ | refine ordC_p rfl rfl ?_); apply Exists.intro; refine ⟨fun wS hS => ?_, ?_⟩; (go_simp; try with_reducible rfl))); simp only [Act.put, List.setIfInBounds_toArray, List.set_cons_zero, List.set_cons_succ])
 refine ordC_m rfl rfl rfl (fun K hK => ?_)
 go_simp
 refine hK _ _ (cellS (cellS (HG.out.cell (cellA _ HS5.out) (HF.out _ (.inr (by simp)))) (by simp)) (by simp)) ?_
 clear hK K
 refine ordC_nil ?_
 go_wp2_with fail
 refine bodyPost_ret (v := valLn { l with na := a', nn := s.names.length + 1, nc := c', lvl := el }) (by simp [results, Tryz.results63, go_sem, hc3]) rfl (FIN.out _ ?_)
 repeat (first | (refine Same.setTail ?_ (by simp)) | (with_reducible exact Same.refl' _))

theorem teller_write (h : HC) (on : List Bs) (l : LnC) (s : LnS) (e : EvC) (w0 w : World) (hb : Below w0.heap.size w0 w) (hr : Row w0 1 encStr h.o.a h.o.n h.o.c on) (he : toldB e.obj h.o.n = true) (hl : LnAt w w0.heap.size l s) (hlen : s.names.length ≤ 1000) :
   Calls Tryz.prog 64 #[valH h, valLn l, valEv e] w (RetLn0 w0 w l { s with names := s.names ++ [nameOf on e.obj] }) := by
 obtain ⟨hk0, hkn⟩ := told_bd he
 obtain ⟨kk, hkk⟩ : ∃ kk : Nat, e.obj = kk := ⟨e.obj.toNat, by omega⟩
 obtain ⟨x, b, o, hx, hab, hc⟩ := hr.at_ (i := kk) (by omega)
 have hcw := hc 0 _ rfl
 simp only [Nat.mul_one, Nat.add_zero] at hcw
 have HBLT := hid (show b < w0.heap.size from cell_lt hcw)
 have hcb := bget hb rfl hcw
 rw [show nameOf on e.obj = x by rw [hkk, nameOf_at hx]]
 have hkl : kk < h.o.n := by omega
 have hle := hr.le
 obtain ⟨eqs, hon, hov⟩ := hl
 obtain ⟨i, z, hi, hz, hsize, hby', hzs⟩ := partsStr
 have HI := hid (⟨hi, hz, hsize, hby', hzs⟩ : _ ∧ _ ∧ _ ∧ _ ∧ _)
 have HAB := hid hab; have HEQ := hid eqs; have HON := hid hon; have HOV := hid hov; have HB := hid hb
 have HN2 : Hid ((s.names.length + 1) * 16 ≤ 140737488355328) := hid (by omega)
 have HN3 : Hid (s.names.length + 1 ≤ maxLen) := hid (by unfold maxLen; omega)
 have HF : Hid (∀ i, (i < w0.heap.size ∨ w.heap.size ≤ i) → some i ≠ (Value.slice l.na l.nn l.nc).ownBlock) := hid (fun i hi => hon.far hi)
 have HAP := hid (hov.apart hon (by decide))
 obtain ⟨ek, et, es, el, eo, ev, ep, esa, esn, esc⟩ := e
 simp only at hkk
 subst hkk
 clear hb hr he hon hov eqs hx hab hc hcw hi hz hsize hby' hzs hk0 hkn
 go_enter Tryz.func64, Tryz.ntmps64
 go_wp2_with fail
 have HS1 := hid (show ((((w.alloc (.cells (cellsH h) 90)).alloc (.cells (cellsLn l) 41)).alloc (.cells (cellsEv ⟨ek, et, es, el, kk, ev, ep, esa, esn, esc⟩) 49)).alloc (.cells #[.int .i64 0, .slice none 0 0, .int .i64 0, .slice none 0 0, .bool false, .int .i64 0] 41)).cell? ⟨w.heap.size + 1, 1, none⟩ = some (.slice l.na l.nn l.nc) from (((Bx.new1 (by simp)).alloc _).alloc _).1 1)
 have HS2 := hid (show ((((w.alloc (.cells (cellsH h) 90)).alloc (.cells (cellsLn l) 41)).alloc (.cells (cellsEv ⟨ek, et, es, el, kk, ev, ep, esa, esn, esc⟩) 49)).alloc (.cells #[.int .i64 0, .slice none 0 0, .int .i64 0, .slice none 0 0, .bool false, .int .i64 0] 41)).cell? ⟨w.heap.size, 2, none⟩ = some (.slice (some ⟨b, o, none⟩) h.o.n h.o.c) from (((((Bx.new1 rfl).alloc _).alloc _).alloc _).1 2).trans (by rw [← HAB.out]; rfl))
 have HS3 := hid (show ((((w.alloc (.cells (cellsH h) 90)).alloc (.cells (cellsLn l) 41)).alloc (.cells (cellsEv ⟨ek, et, es, el, kk, ev, ep, esa, esn, esc⟩) 49)).alloc (.cells #[.int .i64 0, .slice none 0 0, .int .i64 0, .slice none 0 0, .bool false, .int .i64 0] 41)).cell? ⟨w.heap.size + 2, 4, none⟩ = some (.int .i64 kk) from ((Bx.new1 (by simp)).alloc _).1 4)
 have HS4 := hid (show ((((w.alloc (.cells (cellsH h) 90)).alloc (.cells (cellsLn l) 41)).alloc (.cells (cellsEv ⟨ek, et, es, el, kk, ev, ep, esa, esn, esc⟩) 49)).alloc (.cells #[.int .i64 0, .slice none 0 0, .int .i64 0, .slice none 0 0, .bool false, .int .i64 0] 41)).cell? ⟨b, o + kk, none⟩ = some (.string ⟨x.toArray⟩) from cellA _ (cellA _ (cellA _ (cellA _ hcb))))
 refine wp_region_ordC 11 [(0, 0), (1, 0), (2, 0), (3, 0), (4, 0), (5, 0), (6, 0), (7, 0), (8, 0), (9, 2), (10, 2), (11, 1), (12, 2)] (fun _ => True) (fun W' => W'.cell? ⟨w.heap.size + 1, 1, none⟩ = some (.slice l.na l.nn l.nc) ∧ W'.cell? ⟨w.heap.size, 2, none⟩ = some (.slice (some ⟨b, o, none⟩) h.o.n h.o.c) ∧ W'.cell? ⟨w.heap.size + 2, 4, none⟩ = some (.int .i64 kk) ∧ W'.cell? ⟨b, o + kk, none⟩ = some (.string ⟨x.toArray⟩)) (by kernel_rfl) (by kernel_rfl) (trivial) (⟨HS1.out, HS2.out, HS3.out, HS4.out⟩) ?_
 repeat ((first | refine ordC_skip rfl rfl ?_ | refine ordC_skip1 rfl rfl ?_ | ((first | refine ordC_q rfl rfl ?_ | refine ordC_p rfl rfl ?_); apply Exists.intro; refine ⟨fun wS hS => ?_, ?_⟩; (go_simp; try with_reducible rfl))); simp only [Act.put, List.setIfInBounds_toArray, List.set_cons_zero, List.set_cons_succ])
 refine ordC_l rfl rfl (fun K hK => ?_)
 go_simp
 refine hK _ _ ⟨trivial, ⟨cellA _ HS1.out, cellA _ HS2.out, cellA _ HS3.out, cellA _ HS4.out⟩⟩ ?_
 clear hK K
 refine ordC_l rfl rfl (fun K hK => ?_)
 refine wp_app _ _ 22 rfl i z 16 Tryz.underlying22 HI.out.1 HI.out.2.1 HI.out.2.2.1 HI.out.2.2.2.1 HI.out.2.2.2.2 rfl (((((((HON.out.alloc _).alloc _).alloc _).alloc _).alloc _).drew)) (some ⟨w.heap.size + 4, 0, none⟩) 1 1 (s.names.length + 1) [x] rfl (Row.drew (Row.strN (by simp) x)) (rfl) (HN2.out) (HN3.out) (by have := HB.out.size; simp; omega) ?_
 intro a' c' w2 hown2 hg2 hat2
 have HG := hid hg2; have HA := hid hat2; have HW := hid hown2
 refine hK _ _ ⟨trivial, ⟨hg2.cell (cellA _ HS1.out) (HF.out _ (.inr (by simp))), hg2.cell (cellA _ HS2.out) (HF.out _ (.inr (by simp))), hg2.cell (cellA _ HS3.out) (HF.out _ (.inr (by simp))), hg2.cell (cellA _ HS4.out) (HF.out _ (.inl HBLT.out))⟩⟩ ?_
 clear hK K hown2 hat2
 have hbl : Bx w2 (w.heap.size + 1) (cellsLn l) := by
   refine Bx.grown ?_ hg2 (fun e => HF.out _ (.inr (by simp)) e.symm)
   exact ((((Bx.new1 (by simp)).alloc _).alloc _).alloc _).drew
 have hbr : Bx w2 (w.heap.size + 3) #[.int .i64 0, .slice none 0 0, .int .i64 0, .slice none 0 0, .bool false, .int .i64 0] := by
   refine Bx.grown ?_ hg2 (fun e => HF.out _ (.inr (by simp)) e.symm)
   exact ((Bx.new1 (by simp)).alloc _).drew
 have hc1 := hbl.1; have hf1 := hbl.2.1; have hl1 := hbl.2.2; have hc3 := hbr.1; have hf3 := hbr.2.1; have hl3 := hbr.2.2
 have hA1 : ∀ g, (Value.slice a' (s.names.length + 1) c').ownBlock = some g → g ≠ w.heap.size + 1 ∧ g ≠ w.heap.size + 3 := by
   intro g hg
   rcases HA.out with h1 | h1
   · have := (HON.out.lt g (h1.symm.trans hg)).2
     omega
   · rw [h1] at hg; simp at hg; omega
 have hov2 : Own w2 w0.heap.size 98 2 encTo (.slice l.va l.vn l.vc) s.vers := (((((((HOV.out.alloc _).alloc _).alloc _).alloc _).alloc _).drew)).grown hg2 (fun g hg e => HAP.out g hg e)
 have hbe : Below w0.heap.size w0 w2 := below_app (belowA (belowA (belowA (belowA (belowA HB.out _) _) _) _) _).drew ((((((HON.out.alloc _).alloc _).alloc _).alloc _).alloc _).drew) (Nat.le_refl _) (by have := HB.out.size; simp; omega) hg2
 have hsz : w.heap.size ≤ w2.heap.size ∧ ∀ i, i < w.heap.size → some i ≠ (Value.slice l.na l.nn l.nc).ownBlock → w2.heap[i]? = w.heap[i]? := ⟨Nat.le_trans (belowA (belowA (belowA (belowA (belowA (Below.refl w.heap.size w) _) _) _) _) _).drew.size hg2.size, fun i hi h1 => (hg2.block i (Nat.lt_of_lt_of_le hi (belowA (belowA (belowA (belowA (belowA (Below.refl w.heap.size w) _) _) _) _) _).drew.size) h1).trans ((belowA (belowA (belowA (belowA (belowA (Below.refl w.heap.size w) _) _) _) _) _).drew.block i hi)⟩
 have hgr : Grew w l { l with na := a', nn := s.names.length + 1, nc := c' } := ⟨fun g hg => by
   rcases HA.out with h1 | h1
   · exact .inl (h1.symm.trans hg)
   · right; have h2 := h1.symm.trans hg; simp at h2; omega, fun g hg => .inl hg⟩
 have FIN : Hid (∀ W', Same (fun i => i ≠ w.heap.size + 1 ∧ i ≠ w.heap.size + 3) w2 W' → RetLn0 w0 w l { s with names := s.names ++ [x] } (.returned (valLn { l with na := a', nn := s.names.length + 1, nc := c' })) W') := hid (fun W' hs =>
   ⟨_, rfl, ⟨⟨HEQ.out.1, HEQ.out.2.1, HEQ.out.2.2.1, HEQ.out.2.2.2.1, by simp, HEQ.out.2.2.2.2.2⟩, HW.out.same hs hA1, hov2.same hs (fun g hg => by have := (HOV.out.lt g hg).2; constructor <;> omega)⟩, hs.below hbe (fun i hi => by have := HB.out.size; constructor <;> omega) hbe.size, ⟨Nat.le_trans hsz.1 hs.size, fun i hi h1 _ => (hs.block i (by constructor <;> omega) (Nat.lt_of_lt_of_le hi hsz.1)).trans (hsz.2 i hi h1)⟩, hgr⟩)
 have HBL := hid hbl; have HBR := hid hbr; clear hbl hbr hg2 hA1 hov2 hbe hsz hgr
 repeat ((first | refine ordC_skip rfl rfl ?_ | refine ordC_skip1 rfl rfl ?_ | ((first | refine ordC_q rfl rfl ?_ | refine ordC_p rfl rfl ?_); apply Exists.intro; refine ⟨fun wS hS => ?_, ?_⟩; (go_simp; try with_reducible rfl))); simp only [Act.put, List.setIfInBounds_toArray, List.set_cons_zero, List.set_cons_succ])
 refine ordC_m rfl rfl rfl (fun K hK => ?_)
 go_simp
 refine hK _ _ trivial ?_
 clear hK K
 refine ordC_nil ?_
 go_wp2_with fail
 refine bodyPost_ret (v := valLn { l with na := a', nn := s.names.length + 1, nc := c' }) (by simp [results, Tryz.results64, go_sem, hc3]) rfl (FIN.out _ ?_)
 repeat (first | (refine Same.setTail ?_ (by simp)) | (with_reducible exact Same.refl' _))
end Yd
