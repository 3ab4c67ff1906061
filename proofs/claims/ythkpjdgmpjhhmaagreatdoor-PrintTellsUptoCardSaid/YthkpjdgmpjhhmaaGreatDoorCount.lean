import Derived.Test.YthkpjdgmpjhhmaaGreatDoorWords
import Derived.WideKeyPair
import Derived.WideKeyEntry
import Derived.Test.YthkpjdgmpjhhmaaGreatDoorProg
import Derived.Test.YthkpjdgmpjhhmaaGreatDoorCheck
import Derived.Test.YthkpjdgmpjhhmaaGreatDoorTellA
import Derived.Test.YthkpjdgmpjhhmaaGreatDoorLinesC
set_option maxRecDepth 200000
set_option maxHeartbeats 8000000
namespace Yd
open Go Go.RowKit Go.Proofs Go.Maps
open Go.ChangeMaps (setBlock heap_setBlock_same heap_setBlock_other)

theorem arrK : Go.WideMaps.ArrKey Tryz.prog 161 3 2 := ⟨Tryz.underlying161, by kernel_rfl, by kernel_rfl, by kernel_rfl⟩
theorem lawK : Go.WideMaps.KeyLaw Tryz.prog 161 := arrK.law
theorem keyedK : Keyed Tryz.prog 161 := Keyed.of_law lawK
theorem typesK : ∃ m, Tryz.prog.types.size = m + 1 := ⟨Tryz.prog.types.size - 1, by kernel_rfl⟩
theorem zeroInt (w : World) : (zeroValue 3).run Tryz.prog w = .ok (.int .i64 0) w := by kernel_rfl
@[reducible] def wfI (n : Int) : Prop := (Lit.int .i64 n).wf = true
@[reducible] def kV (t o : Int) : Value := .agg #[.int .i64 t, .int .i64 o]
def kL (t o : Int) : Lit := .string (keyBytes [.int .i64 t, .int .i64 o])
theorem keyAt {t o : Int} (ht : wfI t) (ho : wfI o) : keyOf Tryz.prog 161 (kV t o) = some (kL t o) := Go.WideMaps.keyOf_pair arrK Tryz.underlying3 typesK ht ho
theorem kL_inj {t o t' o' : Int} (ht : wfI t) (ho : wfI o) (ht' : wfI t') (ho' : wfI o') (h : kL t o = kL t' o') : (t, o) = (t', o') := by
 have h1 := keyAt ht ho
 rw [h] at h1
 have := lawK.inj h1 (keyAt ht' ho')
 simp only [kV, Value.agg.injEq] at this
 simpa using this
def MapC (W : World) (b : Nat) (L : List (Int × Int)) : Prop :=
 ∃ D : DataW Unit, IsMap D ∧ W.ownsMap Tryz.prog 161 (plainElem Tryz.prog 3) b L.length D ∧ ∀ t o, wfI t → wfI o → D.atKey (kL t o) (.lit (.int .i64 0)) = .lit (.int .i64 (L.count (t, o) : Nat))
theorem MapC.new (w : World) : MapC (w.alloc (.map #[] 0)) w.heap.size [] := ⟨.map [], ⟨[], rfl⟩, World.ownsMap_made _ _ _ _, fun t o _ _ => by simp [DataW.atKey]⟩
theorem MapC.of_eq {W W' : World} {b : Nat} {L : List (Int × Int)} (h : MapC W b L) (e : W'.heap[b]? = W.heap[b]?) : MapC W' b L := by
 obtain ⟨D, hD, ⟨es, clock, hb, F, hs, hd⟩, hat⟩ := h
 exact ⟨D, hD, ⟨es, clock, e.trans hb, F, hs, hd⟩, hat⟩
theorem MapC.lt {W : World} {b : Nat} {L : List (Int × Int)} (h : MapC W b L) : b < W.heap.size := by
 obtain ⟨D, hD, hown, hat⟩ := h
 exact hown.lt
theorem MapC.look {W : World} {b : Nat} {L : List (Int × Int)} (h : MapC W b L) {t o : Int} (ht : wfI t) (ho : wfI o) : (Instr.lookup 160 (.map (some b)) (kV t o) false).run Tryz.prog W = .ok (.int .i64 (L.count (t, o) : Nat)) W := by
 obtain ⟨D, _, hown, hat⟩ := h
 obtain ⟨c, hrun, hc, _⟩ := hown.lookup_int keyedK Tryz.underlying160 Tryz.underlying3 (zeroInt W) (keyAt ht ho)
 rw [hat t o ht ho] at hc
 simp only [DataW.lit.injEq, Lit.int.injEq, true_and] at hc
 rw [hrun, hc]
theorem ok_inj {α : Type} {a b : α} {w w' : World} (h : (Result.ok a w : Result α) = .ok b w') : a = b ∧ w = w' := by cases h; exact ⟨rfl, rfl⟩
theorem setBlock_self {w : World} {b : Nat} {es : Array MapEntry} {clock : Nat} (hb : w.heap[b]? = some (.map es clock)) : (setBlock w b (.map es clock)).heap[b]? = w.heap[b]? := by rw [heap_setBlock_same hb, hb]
theorem grown_setBlock {w : World} {b : Nat} {o : Obj} {es : Array MapEntry} {clock : Nat} (hb : w.heap[b]? = some (.map es clock)) : w.grownBy (setBlock w b o) (some b) :=
 ⟨rfl, rfl, rfl, by simp [setBlock], fun i _ hi => heap_setBlock_other hb _ (fun e => hi (by rw [e]))⟩
theorem MapC.inc {W : World} {b : Nat} {L : List (Int × Int)} (h : MapC W b L) {t o : Int} (ht : wfI t) (ho : wfI o) (hn : L.length < 1000000) :
   ∃ (v0 : Value) (st : Nat) (W1 : World), (Instr.mapEntry 160 (.map (some b)) (kV t o)).run Tryz.prog W = .ok (.tuple #[v0, goInt st]) W1 ∧ W.grownBy W1 (some b) ∧ W1.heap.size = W.heap.size ∧
     (Instr.lookup 160 (.map (some b)) (kV t o) false).run Tryz.prog W1 = .ok (.int .i64 (L.count (t, o) : Nat)) W1 ∧
     ∀ W2 : World, W2.heap[b]? = W1.heap[b]? → ∃ W3, (Instr.entryStore 160 (.map (some b)) (goInt st) (.int .i64 ((L.count (t, o) : Nat) + 1))).run Tryz.prog W2 = .ok () W3 ∧ W2.grownBy W3 (some b) ∧ W3.heap.size = W2.heap.size ∧ MapC W3 b ((t, o) :: L) := by
 obtain ⟨D, hD, hown, hat⟩ := h
 have hcnt : wfI ((L.count (t, o) : Nat) + 1) := by
   have := List.count_le_length (a := (t, o)) (l := L)
   exact WalkArith.wf_i64 (by omega)
 obtain ⟨wS, hS, hSown, hSg⟩ := hown.update keyedK Tryz.underlying160 (by unfold maxLen; omega) (keyAt ht ho) (plainElem_int Tryz.underlying3 hcnt)
 obtain ⟨es, clock, hb, F, hs, hDe⟩ := id hown
 have hkey := keyAt ht ho
 obtain ⟨v0, st, es1, clock1, hrun, _, hst⟩ := Go.WideElems.entry_then_store lawK Tryz.underlying160 zeroInt hb F hkey
 refine ⟨v0, st, _, hrun, grown_setBlock hb, by simp [setBlock], ?_, fun W2 h2 => ?_⟩
 · -- what a look finds behind the entry
   rcases lawK.find W hkey es.toList F.keys with ⟨h1, h2⟩ | ⟨j, e0, h1, h2, h3⟩
   · have hme : (Instr.mapEntry 160 (.map (some b)) (kV t o)).run Tryz.prog W = .ok (.tuple #[.int .i64 0, goInt clock]) (setBlock W b (.map (es.push ⟨kV t o, .int .i64 0, clock⟩) (clock + 1))) := by
       simp [Instr.mapEntry, run_underlying Tryz.underlying160, MapKept.run_getObj_map hb, lawK.check W false hkey, h1, MapKept.run_setObj_map _ hb, Result.andThen, setBlock]
     have hmu : (Instr.mapUpdate 160 (.map (some b)) (kV t o) (.int .i64 0)).run Tryz.prog W = .ok () (setBlock W b (.map (es.push ⟨kV t o, .int .i64 0, clock⟩) (clock + 1))) := by
       simp [Instr.mapUpdate, run_underlying Tryz.underlying160, MapKept.run_getObj_map hb, lawK.check W false hkey, h1, MapKept.run_setObj_map _ hb, Result.andThen, setBlock]
     obtain ⟨w0, hu, how0, _⟩ := hown.update keyedK Tryz.underlying160 (by unfold maxLen; omega) hkey (plainElem_int (a := 0) Tryz.underlying3 (by decide))
     have hw := (ok_inj (hme.symm.trans hrun)).2
     have hu := (ok_inj (hmu.symm.trans hu)).2
     rw [← hw, hu]
     obtain ⟨c, hl, hc, _⟩ := how0.lookup_int keyedK Tryz.underlying160 Tryz.underlying3 (zeroInt _) hkey
     rw [atKey_put_same hD (by trivial)] at hc
     simp only [DataW.lit.injEq, Lit.int.injEq, true_and] at hc
     have hz : (L.count (t, o) : Nat) = 0 := by
       obtain ⟨c', hl', hc', _⟩ := hown.lookup_int keyedK Tryz.underlying160 Tryz.underlying3 (zeroInt _) hkey
       rw [hat t o ht ho] at hc'
       simp only [DataW.lit.injEq, Lit.int.injEq, true_and] at hc'
       have hl2 : (Instr.lookup 160 (.map (some b)) (kV t o) false).run Tryz.prog W = .ok (.int .i64 0) W := by
         simp [Instr.lookup, run_underlying Tryz.underlying160, MapKept.run_getObj_map hb, lawK.check W es.isEmpty hkey, h1, Result.andThen]
       have hl3 := (ok_inj (hl'.symm.trans hl2)).1
       simp only [Value.int.injEq, true_and] at hl3
       omega
     rw [hl, hz, ← hc]; rfl
   · have hj : es[j]? = some e0 := by simpa using h2
     have hsame : es.modify j (fun e => { e with key := kV t o }) = es := by
       apply Array.ext'
       rw [Array.toList_modify]
       apply List.ext_getElem?
       intro i
       rw [List.getElem?_modify]
       split
       · rename_i e
         subst e
         rw [h2, Option.map_eq_map, Option.map_some, ← h3]
       · simp
     have hme : (Instr.mapEntry 160 (.map (some b)) (kV t o)).run Tryz.prog W = .ok (.tuple #[e0.val, goInt e0.born]) (setBlock W b (.map es clock)) := by
       simp [Instr.mapEntry, run_underlying Tryz.underlying160, MapKept.run_getObj_map hb, lawK.check W false hkey, h1, hj, h3, lawK.stays W hkey, hsame, MapKept.run_setObj_map _ hb, Result.andThen, setBlock]
     have hw := (ok_inj (hme.symm.trans hrun)).2
     rw [← hw]
     exact MapC.look (MapC.of_eq ⟨D, hD, hown, hat⟩ (setBlock_self hb)) ht ho
 · rw [heap_setBlock_same hb] at h2
   obtain ⟨es', clock', hr1, hr2⟩ := hst W2 (.int .i64 ((L.count (t, o) : Nat) + 1)) h2
   refine ⟨_, hr1, grown_setBlock h2, by simp [setBlock], ?_⟩
   have hr2 := (ok_inj (hS.symm.trans hr2)).2
   refine MapC.of_eq (W := wS) ⟨_, hD.put _ _, by simpa using hSown, fun t' o' ht' ho' => ?_⟩ (by rw [hr2, heap_setBlock_same hb, heap_setBlock_same h2])
   by_cases he : (t', o') = (t, o)
   · obtain ⟨rfl, rfl⟩ := Prod.mk.inj he
     rw [atKey_put_same hD (by trivial), List.count_cons_self]; rfl
   · rw [atKey_put_other (fun e => he (kL_inj ht' ho' ht ho e)), hat t' o' ht' ho', List.count_cons_of_ne (fun e => he e.symm)]
end Yd


namespace Yd
open Go Go.RowKit Go.Proofs
attribute [local go_sem] Oper.semAt_some

theorem Same.trans_ {A : Nat → Prop} {X Y Z : World} (h : Same A X Y) (k : Same A Y Z) : Same A X Z :=
 ⟨k.os.trans h.os, k.tape.trans h.tape, k.output.trans h.output, Nat.le_trans h.size k.size, fun i hi hl => (k.block i hi (Nat.lt_of_lt_of_le hl h.size)).trans (h.block i hi hl)⟩
theorem Same.of_grown {X Y : World} {b : Nat} (h : X.grownBy Y (some b)) : Same (fun i => i ≠ b) X Y := ⟨h.os, h.tape, h.output, h.size, fun i hi hl => h.block i hl (fun e => hi (by injection e))⟩
theorem Same.alloc_ {A : Nat → Prop} (X : World) (o : Obj) : Same A X (X.alloc o) := Same.of_below (B := X.heap.size) (belowA (Below.refl _ _) _) (fun _ _ h => h)
theorem Same.drew_ {A : Nat → Prop} (X : World) : Same A X X.drew := ⟨rfl, rfl, rfl, Nat.le_refl _, fun _ _ _ => rfl⟩
theorem Same.cell_ {A : Nat → Prop} {X Y : World} (h : Same A X Y) {p : Addr} {v : Value} (hc : X.cell? p = some v) (ha : A p.block) : Y.cell? p = some v :=
 (World.cell?_of_block (a := p) (h.block p.block ha (cell_lt hc))).trans hc
theorem MapC.noCell {W : World} {b : Nat} {L : List (Int × Int)} (h : MapC W b L) {p : Addr} {v : Value} (hc : W.cell? p = some v) : p.block ≠ b := fun e => by
 obtain ⟨D, _, ⟨es, clock, hb, _⟩, _⟩ := h
 unfold World.cell? at hc
 rw [e, hb] at hc
 cases hc
def viol (L : List (Int × Int)) (e : EvC) : Bool := decide (e.kind = 2) && !decide (e.v.k = ((L.count (e.t, e.obj) : Nat) : Int) + 1)
def stepL (L : List (Int × Int)) (e : EvC) : List (Int × Int) := if e.kind = 2 then (e.t, e.obj) :: L else L
def cntB : List (Int × Int) → List EvC → Bool
 | _, [] => true
 | L, e :: r => !viol L e && cntB (stepL L e) r
theorem call_cnt : ∀ args w, (callFunc 93 args).run Tryz.prog w = .ok (.enter 93 args) w := enters_of Tryz.func93 (by kernel_rfl) rfl
theorem call_ctd : ∀ args w, (callFunc 58 args).run Tryz.prog w = .ok (.enter 58 args) w := enters_of Tryz.func58 (by kernel_rfl) rfl
theorem count_inc (e : EvC) (c b : Nat) (L : List (Int × Int)) (w : World) (hc : w.cell? ⟨c, 0, none⟩ = some (.map (some b))) (hm : MapC w b L) (ht : wfI e.t) (ho : wfI e.obj) (hn : L.length < 1000000) :
   Calls Tryz.prog 93 #[valEv e, .pointer (some ⟨c, 0, none⟩)] w fun en w' => en = .returned (.int .i64 (((L.count (e.t, e.obj) : Nat) : Int) + 1)) ∧ Same (fun i => i ≠ b) w w' ∧ MapC w' b ((e.t, e.obj) :: L) := by
 obtain ⟨n, hnn⟩ : ∃ n, n = L.count (e.t, e.obj) := ⟨_, rfl⟩
 have hcl : n ≤ L.length := hnn ▸ List.count_le_length
 obtain ⟨X, hX⟩ : ∃ X, X = (w.alloc (.cells (cellsEv e) 49)).alloc (.cells #[.int .i64 e.t, .int .i64 e.obj] 161) := ⟨_, rfl⟩
 have hsX : Same (fun i => i ≠ b) w X := by rw [hX]; exact (Same.alloc_ _ _).trans_ (Same.alloc_ _ _)
 have hmX : MapC X b L := by
   refine hm.of_eq ?_
   rw [hX]
   exact (belowA (belowA (Below.refl w.heap.size w) _) _).block b hm.lt
 have hcX : X.cell? ⟨c, 0, none⟩ = some (.map (some b)) := by rw [hX]; exact cellA _ (cellA _ hc)
 have hbX : Bx X (w.heap.size + 1) #[.int .i64 e.t, .int .i64 e.obj] := by rw [hX]; exact Bx.new1 (by simp)
 have hlk : (Instr.lookup 160 (.map (some b)) (.agg #[.int .i64 e.t, .int .i64 e.obj]) false).run Tryz.prog X.drew = .ok (.int .i64 (L.count (e.t, e.obj) : Nat)) X.drew := MapC.look (W := X.drew) hmX ht ho
 have hne : w.heap.size + 1 ≠ b := by have := hm.lt; omega
 obtain ⟨v0, st, W1, hme, hg1, hs1, hl1, hes⟩ := MapC.inc (W := X.drew) hmX ht ho hn
 obtain ⟨W3, hst, hg3, hs3, hm3⟩ := hes W1 rfl
 have hl3 : (Instr.lookup 160 (.map (some b)) (.agg #[.int .i64 e.t, .int .i64 e.obj]) false).run Tryz.prog W3 = .ok (.int .i64 (((e.t, e.obj) :: L).count (e.t, e.obj) : Nat)) W3 := hm3.look ht ho
 change (Instr.lookup 160 (.map (some b)) (.agg #[.int .i64 e.t, .int .i64 e.obj]) false).run Tryz.prog W1 = _ at hl1
 change (Instr.mapEntry 160 (.map (some b)) (.agg #[.int .i64 e.t, .int .i64 e.obj])).run Tryz.prog _ = _ at hme
 rw [← hnn] at hlk hl1 hst
 rw [List.count_cons_self, ← hnn] at hl3
 have e1 : Same (fun i => i ≠ b) X W1 := (Same.drew_ X).trans_ (Same.of_grown hg1)
 have e3 : Same (fun i => i ≠ b) X W3 := e1.trans_ (Same.of_grown hg3)
 have hcb := hmX.noCell hcX
 have HC1 := hid (e1.cell_ hcX hcb); have HB1 := hid (e1.bx hbX hne)
 have HC3 := hid (e3.cell_ hcX hcb); have HB3 := hid (e3.bx hbX hne)
 have HCX := hid hcX; have HBX := hid hbX; have HLK := hid hlk; have HL1 := hid hl1; have HL3 := hid hl3; have HST := hid hst; have HME := hid hme
 have HFIN := hid (⟨hsX.trans_ e3, hm3⟩ : _ ∧ _)
 have HX := hid hX
 have HWR : Hid (IntKind.i64.wrap ((n : Int) + 1) = (n : Int) + 1) := hid (Go.IntWalk.i64_in _ (by omega))
 rw [← hnn]
 clear hcl hc hm ht ho hn hnn hX hsX hmX hcX hbX hlk hne hme hg1 hs1 hl1 hes hst hg3 hs3 hm3 hl3 e1 e3 hcb
 go_enter Tryz.func93, Tryz.ntmps93
 go_wp2_with fail
 rw [← HX.out]
 refine wp_region_ordC 6 [(0, 0), (1, 0), (2, 0), (3, 0), (4, 2), (5, 0), (6, 2)] (fun _ => True) (fun W' => W'.cell? ⟨c, 0, none⟩ = some (.map (some b)) ∧ Bx W' (w.heap.size + 1) #[.int .i64 e.t, .int .i64 e.obj] ∧ (Instr.lookup 160 (.map (some b)) (.agg #[.int .i64 e.t, .int .i64 e.obj]) false).run Tryz.prog W' = .ok (.int .i64 n) W') (by kernel_rfl) (by kernel_rfl) (trivial) (⟨HCX.out, HBX.out, HLK.out⟩) ?_
 repeat ((first | refine ordC_skip rfl rfl ?_ | refine ordC_skip1 rfl rfl ?_ | ((first | refine ordC_q rfl rfl ?_ | refine ordC_p rfl rfl ?_); apply Exists.intro; refine ⟨fun wS hS => ?_, ?_⟩; (go_simp; try with_reducible rfl))); simp only [Act.put, List.setIfInBounds_toArray, List.set_cons_zero, List.set_cons_succ])
 refine ordC_l rfl rfl (fun K hK => ?_)
 go_simp
 rw [HME.out]
 go_simp
 refine hK _ _ ⟨trivial, HC1.out, HB1.out, HL1.out⟩ ?_
 clear hK K
 repeat ((first | refine ordC_skip rfl rfl ?_ | refine ordC_skip1 rfl rfl ?_ | ((first | refine ordC_q rfl rfl ?_ | refine ordC_p rfl rfl ?_); apply Exists.intro; refine ⟨fun wS hS => ?_, ?_⟩; (go_simp; try with_reducible rfl))); simp only [Act.put, List.setIfInBounds_toArray, List.set_cons_zero, List.set_cons_succ])
 refine ordC_m rfl rfl rfl (fun K hK => ?_)
 go_simp
 rw [HWR.out]
 rw [show (Value.int IntKind.i64 (st : Int)) = goInt st from rfl, HST.out]
 go_simp
 refine hK _ _ trivial ?_
 clear hK K
 refine ordC_nil ?_
 have hc3 := HC3.out; have hb3 := HB3.out; have hl3 := HL3.out
 have hcx := hb3.1; have hfx := hb3.2.1; have hlx := hb3.2.2
 go_wp2_with fail
 go_ret
 exact ⟨by simp, HFIN.out⟩
theorem counted_ask (e : EvC) (c3 c b : Nat) (L : List (Int × Int)) (w : World) (hc3 : w.cell? ⟨c3, 0, none⟩ = some (.func (.func 93) #[] #[.pointer (some ⟨c, 0, none⟩)])) (hc : w.cell? ⟨c, 0, none⟩ = some (.map (some b))) (hm : MapC w b L)
   (hwf : e.kind = 2 → wfI e.t ∧ wfI e.obj) (hn : L.length < 1000000) :
   Calls Tryz.prog 58 #[valEv e, .pointer (some ⟨c3, 0, none⟩)] w fun en w' => en = .returned (.bool (viol L e)) ∧ Same (fun i => i ≠ b) w w' ∧ MapC w' b (stepL L e) := by
 have hx := Bx.new w (cellsEv e) 49
 have hcX := cellA (.cells (cellsEv e) 49) hc3
 have hsX : Same (fun i => i ≠ b) w (w.alloc (.cells (cellsEv e) 49)) := Same.alloc_ _ _
 have hmX : MapC (w.alloc (.cells (cellsEv e) 49)) b L := hm.of_eq ((belowA (Below.refl w.heap.size w) _).block b hm.lt)
 by_cases hk : e.kind = 2
 · have hcc := cellA (.cells (cellsEv e) 49) hc
   have HCI := hid (count_inc e c b L ((w.alloc (.cells (cellsEv e) 49)).drew) hcc hmX (hwf hk).1 (hwf hk).2 hn)
   have HX := hid hx; have HCX := hid hcX; have HSX := hid hsX; have HST : Hid (stepL L e = (e.t, e.obj) :: L) := hid (by simp [stepL, hk])
   have HV : Hid (viol L e = !decide (e.v.k = ((L.count (e.t, e.obj) : Nat) : Int) + 1)) := hid (by simp [viol, hk])
   have HNB := hid (hmX.noCell hcX); have hlt := hm.lt
   have HNB2 : Hid (w.heap.size ≠ b) := hid (by omega)
   obtain ⟨n, hnn⟩ : ∃ n, n = L.count (e.t, e.obj) := ⟨_, rfl⟩
   rw [← hnn] at HCI HV
   have eg := call_cnt
   have hkb : (e.kind == 2) = true := beq_iff_eq.2 hk
   clear hc3 hc hm hwf hn hx hcX hsX hmX hcc hlt hnn hk
   go_enter Tryz.func58, Tryz.ntmps58
   go_wp2_with fail
   refine wp_region_ord [(0, true), (1, true), (2, true), (3, true), (4, true), (5, true), (6, true), (7, true), (8, true), (9, false), (10, true), (11, true), (12, true)] (fun W' => Bx W' w.heap.size (cellsEv e) ∧ W'.cell? ⟨c3, 0, none⟩ = some (.func (.func 93) #[] #[.pointer (some ⟨c, 0, none⟩)])) (by kernel_rfl) (by kernel_rfl) (by intro d v c a w h; cases d <;> exact h) (⟨HX.out, HCX.out⟩) ?_
   repeat ((first | refine ord_skip rfl rfl ?_ | (refine ord_q rfl rfl ?_; apply Exists.intro; refine ⟨fun wS hS => ?_, ?_⟩; (go_simp; try with_reducible rfl))); simp only [Act.put, List.setIfInBounds_toArray, List.set_cons_zero, List.set_cons_succ])
   refine ord_l rfl rfl (fun K hK => ?_)
   go_simp
   refine HCI.out.mono ?_
   rintro en Y ⟨rfl, hsY, hmY⟩
   have HSY := hid (HSX.out.trans_ ((Same.drew_ _).trans_ hsY)); have HMY := hid hmY
   refine hK _ _ ⟨(Same.trans_ (Same.drew_ _) hsY).bx HX.out HNB2.out, (Same.trans_ (Same.drew_ _) hsY).cell_ HCX.out HNB.out⟩ ?_
   clear hK K hsY hmY
   repeat ((first | refine ord_skip rfl rfl ?_ | (refine ord_q rfl rfl ?_; apply Exists.intro; refine ⟨fun wS hS => ?_, ?_⟩; (go_simp; try with_reducible rfl))); simp only [Act.put, List.setIfInBounds_toArray, List.set_cons_zero, List.set_cons_succ])
   refine ord_nil ?_
   go_wp2_with fail
   go_ret
   refine ⟨?_, HSY.out, HST.out ▸ HMY.out⟩
   rw [HV.out]
   simp [bne, BEq.beq]
 · have HX := hid hx; have HCX := hid hcX; have HSX := hid hsX; have HMX := hid hmX; have HST : Hid (stepL L e = L) := hid (by simp [stepL, hk])
   have HV : Hid (viol L e = false) := hid (by simp [viol, hk])
   have hkb : (e.kind == 2) = false := beq_eq_false_iff_ne.2 hk
   clear hc3 hc hm hwf hn hx hcX hsX hmX hk
   go_enter Tryz.func58, Tryz.ntmps58
   go_wp2_with fail
   refine wp_region_ord [(0, true), (1, true), (2, true), (3, true), (4, true), (5, true), (6, true), (7, true), (8, true), (9, true), (10, true), (11, true), (12, true)] (fun W' => Bx W' w.heap.size (cellsEv e) ∧ W'.cell? ⟨c3, 0, none⟩ = some (.func (.func 93) #[] #[.pointer (some ⟨c, 0, none⟩)])) (by kernel_rfl) (by kernel_rfl) (by intro d v c a w h; cases d <;> exact h) (⟨HX.out, HCX.out⟩) ?_
   repeat ((first | refine ord_skip rfl rfl ?_ | (refine ord_q rfl rfl ?_; apply Exists.intro; refine ⟨fun wS hS => ?_, ?_⟩; (go_simp; try with_reducible rfl))); simp only [Act.put, List.setIfInBounds_toArray, List.set_cons_zero, List.set_cons_succ])
   refine ord_nil ?_
   go_wp2_with fail
   go_ret
   exact ⟨by rw [HV.out]; rfl, HSX.out.trans_ (Same.drew_ _), by rw [HST.out]; exact HMX.out⟩
theorem Row.same {α : Type} {en : α → List Value} {k : Nat} {w X : World} {b n c : Nat} {a : Option Addr} {xs : List α} {L : List (Int × Int)} (h : Row w k en a n c xs) (hm : MapC w b L) (hs : Same (fun i => i ≠ b) w X) : Row X k en a n c xs :=
 h.ext (fun _ _ hc => hs.cell_ hc (hm.noCell hc))
theorem counted_idx (a : Option Addr) (n ca : Nat) (es : List EvC) (c3 c b : Nat) (w : World) (hr : Row w 9 encEv a n ca es) (hc3 : w.cell? ⟨c3, 0, none⟩ = some (.func (.func 93) #[] #[.pointer (some ⟨c, 0, none⟩)]))
   (hc : w.cell? ⟨c, 0, none⟩ = some (.map (some b))) (hm : MapC w b []) (hwf : ∀ e ∈ es, e.kind = 2 → wfI e.t ∧ wfI e.obj) (hn : n ≤ 100000) :
   Calls Tryz.prog 94 #[.slice a n ca, .func (.func 58) #[] #[.pointer (some ⟨c3, 0, none⟩)]] w
     fun en w' => (∃ j : Int, en = .returned (.int .i64 j) ∧ decide (0 ≤ j) = !cntB [] es) ∧ Same (fun i => i ≠ b) w w' := by
 have HR := hid hr; have HM := hid hm; have HC3 := hid hc3; have HC := hid hc; have HW := hid hwf
 have eg := call_ctd
 clear hr hc3 hc hm hwf
 go_enter Tryz.func94, Tryz.ntmps94
 go_wp2_with fail
 go_loopw [8] (fun i wr => ∃ (k : Nat) (L : List (Int × Int)), k ≤ n ∧ i = .int .i64 k ∧ L.length ≤ k ∧ MapC wr b L ∧ Same (fun i => i ≠ b) w wr ∧ cntB [] es = cntB L (es.drop k)) (fun i _ => n - (RowKit.intOf i).toNat)
 case atStart => exact ⟨0, [], Nat.zero_le _, rfl, Nat.le_refl _, HM.out, Same.refl' _, rfl⟩
 case round =>
   obtain ⟨k, L, hk, rfl, hLk, hmk, hsk, hck⟩ := hrel
   by_cases hlt : k < n
   · obtain ⟨x, bb, o, hx, rfl, hc⟩ := (HR.out.same HM.out hsk).at_ hlt
     have h0 := hc 0 _ rfl
     have h1 := hc 1 _ rfl
     have h2 := hc 2 _ rfl
     have h3 := hc 3 _ rfl
     have h4 := hc 4 _ rfl
     have h5 := hc 5 _ rfl
     have h6 := hc 6 _ rfl
     have h7 := hc 7 _ rfl
     have h8 := hc 8 _ rfl
     simp only [Nat.add_zero] at h0
     have hdr : es.drop k = x :: es.drop (k + 1) := by
       rw [List.drop_eq_getElem_cons (by rw [HR.out.len]; exact hlt)]
       rw [List.getElem?_eq_getElem (by rw [HR.out.len]; exact hlt)] at hx
       injection hx with hx
       rw [hx]
     have hcall := counted_ask x c3 c b L wr (hsk.cell_ HC3.out (HM.out.noCell HC3.out)) (hsk.cell_ HC.out (HM.out.noCell HC.out)) hmk (HW.out x (List.mem_of_getElem? hx)) (by omega)
     rw [hdr] at hck
     have hst : (stepL L x).length ≤ k + 1 := by unfold stepL; split <;> (try simp only [List.length_cons]) <;> omega
     have HSK := hid hsk; have HST := hid hst
     clear hc hx hdr hmk hsk hst
     simp only [cntB] at hck
     cases hv : viol L x
     all_goals
       rw [hv] at hcall hck
       have HC2 := hid hcall; have HCK := hid hck
       clear hcall hv hck
       go_wp2_with fail
       refine HC2.out.mono ?_
       rintro e w1 ⟨rfl, hs1, hm1⟩
       have HS1 := hid (HSK.out.trans_ hs1); have HM1 := hid hm1
       clear hs1 hm1
       go_wp2_with fail
     · go_roundw
       case rel => exact ⟨k + 1, stepL L x, by omega, by go_num, HST.out, HM1.out, HS1.out, by rw [HCK.out]; rfl⟩
       case measure => simp [RowKit.intOf]; omega
     · go_ret
       exact ⟨⟨k, rfl, by rw [HCK.out]; simp⟩, HS1.out⟩
   · have hkn : k = n := by omega
     have hdr : es.drop k = [] := List.drop_of_length_le (by rw [HR.out.len]; omega)
     rw [hdr] at hck
     have HCK := hid hck; have HSK := hid hsk
     clear hck hsk hmk
     go_wp2_with fail
     go_ret
     exact ⟨⟨-1, rfl, by rw [HCK.out]; rfl⟩, HSK.out⟩
theorem counted_contains (a : Option Addr) (n ca : Nat) (es : List EvC) (c3 c b : Nat) (w : World) (hr : Row w 9 encEv a n ca es) (hc3 : w.cell? ⟨c3, 0, none⟩ = some (.func (.func 93) #[] #[.pointer (some ⟨c, 0, none⟩)]))
   (hc : w.cell? ⟨c, 0, none⟩ = some (.map (some b))) (hm : MapC w b []) (hwf : ∀ e ∈ es, e.kind = 2 → wfI e.t ∧ wfI e.obj) (hn : n ≤ 100000) :
   Calls Tryz.prog 57 #[.slice a n ca, .func (.func 58) #[] #[.pointer (some ⟨c3, 0, none⟩)]] w fun en w' => en = .returned (.bool (!cntB [] es)) ∧ Same (fun i => i ≠ b) w w' := by
 have HC := hid (counted_idx a n ca es c3 c b w hr hc3 hc hm hwf hn)
 clear hr hc3 hc hm hwf
 go_enter Tryz.func57, Tryz.ntmps57
 go_wp2_with fail
 refine HC.out.mono ?_
 rintro e w1 ⟨⟨j, rfl, hj⟩, hs⟩
 have HJ := hid hj; have HS := hid hs
 clear hj hs
 go_wp2_with fail
 go_ret
 exact ⟨by rw [← HJ.out]; rfl, HS.out⟩
theorem wf_told {n : Int} {m : Nat} (h : toldB n m = true) (hm : m ≤ 140737488355328) : wfI n := by
 obtain ⟨h1, h2⟩ := told_bd h
 exact WalkArith.wf_i64 (by omega)
theorem wf_of_check {h : HC} {nl : Nat → List Bs} {es : List EvC} {ds : List OrC} {ms : List MaC} {qs : List Wa} {scan : EvC → List Sn} {dn : OrC → List Int} {mn : MaC → List Int} {w : World} (hn : ∀ i, i < 4 → Row w 1 encStr (h.nm i).a (h.nm i).n (h.nm i).c (nl i))
   (hc : checkB h nl es ds ms qs scan dn mn = true) : ∀ e ∈ es, e.kind = 2 → wfI e.t ∧ wfI e.obj := by
 intro e he hk
 simp only [checkB, shapedB, Bool.and_eq_true, List.all_eq_true] at hc
 have h1 := hc.1.1.1.1.1.2 e he
 simp only [evB, Bool.and_eq_true] at h1
 have h2 := h1.1.2
 unfold hasB at h2
 rw [if_neg (by rw [hk]; decide), if_pos hk] at h2
 simp only [Bool.and_eq_true] at h2
 exact ⟨wf_told h1.1.1.2 (hn 0 (by decide)).le, wf_told h2.1.1.1 (hn 2 (by decide)).le⟩
theorem counter_new (w : World) : Calls Tryz.prog 55 #[] w fun en w' => ∃ c b : Nat, en = .returned (.func (.func 93) #[] #[.pointer (some ⟨c, 0, none⟩)]) ∧ w'.cell? ⟨c, 0, none⟩ = some (.map (some b)) ∧ MapC w' b [] ∧ Below w.heap.size w w' ∧ w.heap.size ≤ b := by
 have hmm := @run_makeMap Tryz.prog
 go_enter Tryz.func55, Tryz.ntmps55
 go_wp2_with fail
 go_ret
 exact ⟨w.heap.size + 1, w.heap.size, rfl, (Bx.new1 (by simp)).1 0, (MapC.new w).of_eq (Below.heap_alloc _ _ _ (by simp)), belowA (belowA (Below.refl _ _) _) _, Nat.le_refl _⟩
theorem counted_any (h : HC) (nl : Nat → List Bs) (es : List EvC) (ds : List OrC) (ms : List MaC) (qs : List Wa) (scan : EvC → List Sn) (dn : OrC → List Int) (mn : MaC → List Int) (w : World) (hg : GlobH w)
   (hn : ∀ i, i < 4 → Row w 1 encStr (h.nm i).a (h.nm i).n (h.nm i).c (nl i)) (hd : Deep w h es ds ms qs scan dn mn) :
   Calls Tryz.prog 23 #[valH h] w (Ret (.bool (checkB h nl es ds ms qs scan dn mn && cntB [] es)) w) := by
 have hb0 := belowA (Below.refl w.heap.size w) (.cells (cellsH h) 28)
 have HC := hid (check_any h nl es ds ms qs scan dn mn _ (hg.below hb0) (fun i hi => (hn i hi).below hb0 rfl) (hd.below hb0 rfl))
 have HB := hid hb0
 have HX := hid (Bx.new w (cellsH h) 28)
 cases hck : checkB h nl es ds ms qs scan dn mn
 · rw [hck] at HC
   clear hg hn hd hb0 hck
   go_enter Tryz.func23, Tryz.ntmps23
   go_wp2_with fail
   refine HC.out.mono ?_
   rintro e w1 ⟨rfl, hb1⟩
   have HB1 := hid (HB.out.trans (hb1.mono HB.out.size))
   clear hb1
   rw [show checkE false = 210 from rfl]
   go_wp2_with fail
   go_ret
   exact ⟨rfl, HB1.out⟩
 · have HW := hid (wf_of_check hn hck)
   have hsh : shapedB h nl es ds ms qs scan dn mn = true := by simp only [checkB, Bool.and_eq_true] at hck; exact hck.1.1
   have hmany := by
     have h1 := hsh
     simp only [shapedB, namesB, Bool.and_eq_true] at h1
     exact many_le h1.1.1.1.1.1
   have HN := hid (show h.e.n ≤ 100000 by omega)
   rw [hck] at HC
   have HR := hid hd.1
   clear hg hn hd hb0 hck hsh hmany
   go_enter Tryz.func23, Tryz.ntmps23
   go_wp2_with fail
   refine HC.out.mono ?_
   rintro e w1 ⟨rfl, hb1⟩
   have HB1 := hid (HB.out.trans (hb1.mono HB.out.size))
   have HX1 := hid (HX.out.keep hb1)
   clear hb1
   rw [show checkE true = 0 from rfl]
   go_wp2_with fail
   refine (counter_new w1).mono ?_
   rintro e w2 ⟨c, b, rfl, hc2, hm2, hb2, hbb⟩
   have hx2 := HX1.out.keep hb2
   have HB2 := hid (HB1.out.trans (hb2.mono HB1.out.size))
   have hxa := hx2.alloc (.cells #[.func (.func 93) #[] #[.pointer (some ⟨c, 0, none⟩)]] 117)
   have hcx := hxa.1; have hfx := hxa.2.1; have hlx := hxa.2.2
   have hbn := belowA (Below.refl w2.heap.size w2) (.cells #[.func (.func 93) #[] #[.pointer (some ⟨c, 0, none⟩)]] 117)
   have HK := hid (counted_contains h.e.a h.e.n h.e.c es w2.heap.size c b (w2.alloc (.cells #[.func (.func 93) #[] #[.pointer (some ⟨c, 0, none⟩)]] 117)) ((HR.out.below HB2.out rfl).below hbn rfl) ((Bx.new1 rfl).1 0) (cellA _ hc2) (hm2.of_eq (hbn.block b hm2.lt)) HW.out HN.out)
   have HBB : Hid (w.heap.size ≤ b) := hid (Nat.le_trans HB1.out.size hbb)
   have HBN := hid (HB2.out.trans (hbn.mono HB2.out.size))
   clear hc2 hm2 hb2 hbb hx2 hxa hbn
   go_wp2_with fail
   refine HK.out.mono ?_
   rintro e w3 ⟨rfl, hs3⟩
   have HS3 := hid (hs3.below HBN.out (fun i hi => by have := HBB.out; omega) HBN.out.size)
   clear hs3
   go_wp2_with fail
   go_ret
   exact ⟨by simp, HS3.out⟩
end Yd
