import Derived.Test.YthkpjdgmpjhhmaaGreatDoorPrIter
import Derived.OwnWalkIn
import Derived.WalkMore
import Derived.ScopeJumps
import Derived.Test.YthkpjdgmpjhhmaaGreatDoorProg
set_option maxRecDepth 200000
set_option maxHeartbeats 8000000
namespace Yd
open Go Go.RowKit Go.Proofs

theorem wpListIn_app {α : Type} {enc : α → List Value} {k : Nat} {w : World} {B : Nat} {E : TypeId} {v : Value} {xs : List α} [hc : Cells enc k] {F : Fence} {n0 : Nat} {P : Program} {ops : Array Oper} {rest : List Oper} {o : Oper} {ac : Act} {Q : Exit → Act → World → Prop} (hgd : o.guard = none) (s x : Operand) (t : TypeId)
   (ho : o.op = .call { callee := .builtin .append, args := #[s, x], argTypes := #[t, t] }) (i : TypeInfo) (z : Value) (bytes : Nat) (ht : P.underlying t = some (.slice E)) (hi : P.info? E = some i) (hz : i.zero = some z)
   (hsize : i.size = k) (hby : i.bytes = bytes) (hzs : z.cells.size = k) (hs : ac.eval s = v) (hown : Own w B E k enc v xs)
   (a : Option Addr) (m c N : Nat) (ys : List α) (hx : ac.eval x = .slice a m c) (hr : Row w k enc a m c ys) (hN : xs.length + m = N) (hbytes : N * bytes ≤ 140737488355328) (h63 : N ≤ maxLen) (hbase : B ≤ w.heap.size)
   (h : ∀ a' c' w', Own w' B E k enc (.slice a' N c') (xs ++ ys) → w.grownBy w' v.ownBlock → ((Value.slice a' N c').ownBlock = v.ownBlock ∨ (Value.slice a' N c').ownBlock = some w.heap.size) → wpListIn F n0 P ops Q rest (ac.put o.dst (.slice a' N c')) w') :
   wpListIn F n0 P ops Q (o :: rest) ac w := by
 refine wpListIn_plain hgd fun K hK' => ?_
 subst hN
 obtain ⟨a', c', w', hrun, h2, h3, h4⟩ := run_app (P := P) t o.type i z bytes ht hi hz hsize hby hzs hown hr hbytes h63 hbase
 have hl : (xs ++ ys).length = xs.length + m := by rw [List.length_append, hr.len]
 rw [hl] at hrun h2 h4
 unfold Oper.wpIn
 refine ⟨?_, ?_⟩
 · simp [Oper.about, ho, resolve, Target.leads, Sem.run_pure]
 · rw [Oper.semAt_plain F _ _ (by rw [ho]; intro c hc'; cases hc')]
   simp [execOp, ho, resolve, invoke, builtin, hs, hx, hrun, Result.andThen]
   exact hK' _ _ (h a' c' w' h2 h3 h4)
theorem Row.lnN {X : World} {g : Nat} (h : X.heap.size = g) (l : LnC) : Row (X.alloc (.cells (cellsLn l) 41)) 6 encLn (some ⟨g, 0, none⟩) 1 1 [l] :=
 h ▸ (Own.new (hc := cInsLn) X X.heap.size 41 (cellsLn l) [l] (Nat.le_refl _) rfl (by simp [maxLen])).row (by simp)
def LnsAt (w : World) (B : Nat) (lcs : List LnC) (ls : List LnS) : Prop := lcs.length = ls.length ∧ ∀ (i : Nat) (l : LnC), lcs[i]? = some l → ∃ s, ls[i]? = some s ∧ LnAt w B l s
theorem LnsAt.same {w w' : World} {B : Nat} {lcs : List LnC} {ls : List LnS} (h : LnsAt w B lcs ls) {A : Nat → Prop} (hs : Same A w w') (hA : ∀ i, B ≤ i → A i) : LnsAt w' B lcs ls :=
 ⟨h.1, fun i l hl => let ⟨s, h1, h2⟩ := h.2 i l hl; ⟨s, h1, h2.1, h2.2.1.same hs (fun g hg => hA g (h2.2.1.lt g hg).1), h2.2.2.same hs (fun g hg => hA g (h2.2.2.lt g hg).1)⟩⟩
theorem LnsAt.below {w w' : World} {B : Nat} {lcs : List LnC} {ls : List LnS} (h : LnsAt w B lcs ls) (hb : Below w.heap.size w w') : LnsAt w' B lcs ls :=
 ⟨h.1, fun i l hl => let ⟨s, h1, h2⟩ := h.2 i l hl; ⟨s, h1, h2.below hb⟩⟩
theorem LnsAt.grown {w w' : World} {B : Nat} {lcs : List LnC} {ls : List LnS} (h : LnsAt w B lcs ls) {row : Option Nat} (hg : w.grownBy w' row) (hr : ∀ g, row = some g → ∃ cs fz, w.heap[g]? = some (.cells cs 41 fz)) : LnsAt w' B lcs ls :=
 ⟨h.1, fun i l hl => let ⟨s, h1, h2⟩ := h.2 i l hl; ⟨s, h1, h2.1,
   h2.2.1.grown hg (fun g hg' e => by obtain ⟨cs, fz, e1⟩ := hr g e; exact h2.2.1.notBox e1 (by decide) hg'),
   h2.2.2.grown hg (fun g hg' e => by obtain ⟨cs, fz, e1⟩ := hr g e; exact h2.2.2.notBox e1 (by decide) hg')⟩⟩
theorem LnsAt.snoc {w : World} {B : Nat} {lcs : List LnC} {ls : List LnS} (h : LnsAt w B lcs ls) {l : LnC} {s : LnS} (hl : LnAt w B l s) : LnsAt w B (lcs ++ [l]) (ls ++ [s]) := by
 have e := h.1
 refine ⟨by simp [h.1], fun i q hq => ?_⟩
 rcases Nat.lt_or_ge i lcs.length with hi | hi
 · rw [List.getElem?_append_left hi] at hq
   obtain ⟨t, h1, h2⟩ := h.2 i q hq
   exact ⟨t, by rw [List.getElem?_append_left (by omega)]; exact h1, h2⟩
 · rw [List.getElem?_append_right hi] at hq
   have h0 : i - lcs.length = 0 := by
     rcases Nat.eq_zero_or_pos (i - lcs.length) with h0 | h0
     · exact h0
     · rw [List.getElem?_eq_none (by simp; omega)] at hq; cases hq
   rw [h0] at hq
   obtain rfl : l = q := by simpa using hq
   exact ⟨s, by rw [List.getElem?_append_right (by omega), show i - ls.length = 0 by omega]; rfl, hl⟩

attribute [local go_sem] Oper.semAt_some
def RetLns (ls : List LnS) (w : World) (e : Ending) (Y : World) : Prop := ∃ a c lcs, e = .returned (.slice a lcs.length c) ∧ Own Y w.heap.size 41 6 encLn (.slice a lcs.length c) lcs ∧ LnsAt Y w.heap.size lcs ls ∧ Below w.heap.size w Y
theorem appendSeq_any (gf : Nat) (lb : Array Value) (eg : ∀ args w, (callFunc gf args).run Tryz.prog w = .ok (.enter gf args) w) (ls : List LnS) (w : World) (hlen : ls.length ≤ 100000)
   (hseq : ∀ W, Below w.heap.size w W → Iter Tryz.prog gf lb (RepLn W.heap.size) 0 (fun i => i < w.heap.size) ls W) :
   Calls Tryz.prog 62 #[.slice none 0 0, .func (.func gf) #[] lb] w (RetLns ls w) := by
 refine (callsIn_wide (n := 3)).1 ?_
 refine callsIn_of_wp_marks Tryz.func62 rfl trivial ?_ rfl
 simp only [Tryz.ntmps62, List.size_toArray, List.length_cons, List.length_nil, Nat.reduceAdd, Nat.reduceSub, Array.replicate_succ, Array.replicate_zero, List.push_toArray, List.append_toArray, List.nil_append, List.cons_append]
 refine wpIn_wide.2 ?_
 obtain ⟨i, z, hi, hz, hsize, hby', hzs⟩ := partsLn
 have HI := hid (⟨hi, hz, hsize, hby', hzs⟩ : _ ∧ _ ∧ _ ∧ _ ∧ _)
 have HSEQ := hid hseq; have HLEN := hid hlen
 clear hi hz hsize hby' hzs hseq hlen
 go_wp2_with fail
 have hbV : Below w.heap.size w (w.alloc (.cells #[.slice none 0 0] 31)) := belowA (Below.refl _ _) _
 have hVb : Bx (w.alloc (.cells #[.slice none 0 0] 31)) w.heap.size #[.slice none 0 0] := Bx.new1 rfl
 have hVs : (w.alloc (.cells #[.slice none 0 0] 31)).heap.size = w.heap.size + 1 := by simp
 revert hbV hVb hVs
 generalize w.alloc (.cells #[.slice none 0 0] 31) = V
 intro hbV hVb hVs
 refine wpIn_wide.1 (wpIn_iter (n := 3) (gf := gf) (lb := lb) (by simp [go_sem]) eg
   (Rep := RepLn (w.heap.size + 3)) (k := 0) (D := fun i => i < w.heap.size) (xs := ls)
   (fun W hW hWs => by have := HSEQ.out W (hbV.trans (hW.mono hbV.size)); rw [show W.heap.size = w.heap.size + 3 by omega] at this; exact this) (by omega)
   (fun x args X hx => by obtain ⟨_, rfl, _⟩ := hx; rfl)
   (fun pre X => Below w.heap.size w X ∧ ∃ a c lcs, Bx X w.heap.size #[.slice a lcs.length c] ∧ Own X (w.heap.size + 3) 41 6 encLn (.slice a lcs.length c) lcs ∧ LnsAt X (w.heap.size + 3) lcs pre)
   (fun _ _ _ => False)
   (fun pre X Y hh k => by
     obtain ⟨h1, a, c, lcs, h2, h3, h4⟩ := hh
     exact ⟨k.below h1 (fun i hi => .inl (by omega)) h1.size, a, c, lcs, k.bx h2 (.inl (by omega)), h3.same k (fun g hg => .inr (by have := (h3.lt g hg).1; omega)), h4.same k (fun i hi => .inr (by omega))⟩)
   (fun _ _ _ _ hh _ => hh.elim)
   ⟨hbV, none, 0, [], hVb, Own.nil_ _ _ _ _ _, rfl, fun i l hl => by simp at hl⟩ ?round ?done (fun _ _ _ _ hh _ => hh.elim))
 case done =>
   rintro X ⟨hb, a, c, lcs, hbx, hown, hat⟩ hdef
   have hc := hbx.1
   simp only [Exit.inBlock, Exit.then]
   have HB := hid hb; have HO := hid hown; have HA := hid hat
   clear hb hown hat hbx
   go_wp2_with fail
   refine ⟨by simp, .inl ⟨_, _, rfl, run_takeDeferred hdef, ?_⟩⟩
   have hs : Same (fun i => i ≠ V.heap.size) X (X.putObj V.heap.size (.deferred none)) := Same.putObj X _ (by simp)
   exact ⟨_, results_tmp rfl _ _ _, a, c, lcs, rfl, (HO.out.same hs (fun g hg => by have := (HO.out.lt g hg).1; omega)).mono (by omega), ⟨HA.out.1, fun i l hl => let ⟨s, h1, h2⟩ := (HA.out.same hs (fun i hi => by omega)).2 i l hl; ⟨s, h1, h2.mono (by omega)⟩⟩, hs.below HB.out (fun i hi => by omega) HB.out.size⟩
 case round =>
   rintro pre x args X ⟨hb, a, c, lcs, hbx, hown, hat⟩ hpre ⟨lc, rfl, hln⟩ hsz m
   have HB := hid hb; have HO := hid hown; have HA := hid hat; have HX := hid hbx; have HLN := hid hln
   clear hb hown hat hbx hln
   gi_wp2
   refine ⟨belowA (Below.refl _ _) _, fun X2 hk => ?_⟩
   have hx2 := hk.bx (HX.out.alloc _) (by simp; omega)
   have hl2 := hk.bx (Bx.new1 (b := X.heap.size) rfl) (by simp; omega)
   have ho2 : Own X2 (w.heap.size + 3) 41 6 encLn (.slice a lcs.length c) lcs := (HO.out.alloc _).same hk (fun g hg => by have := (HO.out.lt g hg).1; simp; omega)
   have ha2 : LnsAt X2 (w.heap.size + 3) lcs pre := (HA.out.below (belowA (Below.refl _ _) _)).same hk (fun i hi => by simp; omega)
   have hn2 : LnAt X2 (w.heap.size + 3) lc x := ⟨HLN.out.1, ((HLN.out.2.1.alloc _).same hk (fun g hg => by have := (HLN.out.2.1.lt g hg).1; simp; omega)), ((HLN.out.2.2.alloc _).same hk (fun g hg => by have := (HLN.out.2.2.lt g hg).1; simp; omega))⟩
   have hb2 : Below w.heap.size w X2 := hk.below (belowA HB.out _) (fun i hi => by simp; omega) (by simp; have := HB.out.size; omega)
   have hz2 : w.heap.size + 3 ≤ X2.heap.size := by have := hk.size; simp at this; omega
   have hpl : pre.length + 1 ≤ ls.length := by have := hpre.length_le; simpa using this
   have HN1 : Hid ((lcs.length + 1) * 80 ≤ 140737488355328) := hid (by have := HA.out.1; have := HLEN.out; omega)
   have HN2 : Hid (lcs.length + 1 ≤ maxLen) := hid (by have := HA.out.1; have := HLEN.out; unfold maxLen; omega)
   have hc2 := hx2.1; have hcl := hl2.1
   have HX2 := hid hx2; have HO2 := hid ho2; have HA2 := hid ha2; have HLN2 := hid hn2; have HB2 := hid hb2
   clear hx2 hl2 ho2 ha2 hn2 hb2 hk
   gi_wp2_with (gi_at_builtin; refine wpListIn_app rfl _ _ 31 rfl i z 80 Tryz.underlying31 HI.out.1 HI.out.2.1 HI.out.2.2.1 HI.out.2.2.2.1 HI.out.2.2.2.2 rfl (HO2.out.alloc _) (some ⟨X2.heap.size, 0, none⟩) 1 1 (lcs.length + 1) [lc] rfl (Row.lnN rfl lc) rfl HN1.out HN2.out (by simp; omega) ?_; intro a' c' w3 hown3 hg3 hat3; (have hbx3 : Bx w3 w.heap.size #[.slice a lcs.length c] := (HX2.out.alloc _).grown hg3 (fun e => by have := (HO2.out.lt _ e).1; omega)); (have hc3 := hbx3.1); (have hf3 := hbx3.2.1); (have HBX3 := hid hbx3); (have HO3 := hid hown3); (have HG3 := hid hg3); clear hbx3 hown3 hg3 hat3)
   have hz3 : X2.heap.size + 1 ≤ w3.heap.size := by have := HG3.out.size; simpa using this
   have hkp : ∀ j, j < w.heap.size + 3 → w3.heap[j]? = X2.heap[j]? := fun j hj => (HG3.out.block j (by simp; omega) (fun e => by have := (HO2.out.lt j e.symm).1; omega)).trans (Below.heap_alloc _ _ _ (by omega))
   have htag : ∀ g, (Value.slice a lcs.length c).ownBlock = some g → ∃ cs fz, (X2.alloc (.cells (cellsLn lc) 41)).heap[g]? = some (.cells cs 41 fz) := fun g hg => by
     obtain ⟨cs, fz, e⟩ := HO2.out.tag hg
     exact ⟨cs, fz, heapA _ e⟩
   have ha3 : LnsAt w3 (w.heap.size + 3) (lcs ++ [lc]) (pre ++ [x]) := ((HA2.out.below (belowA (Below.refl _ _) _)).snoc ⟨HLN2.out.1, HLN2.out.2.1.alloc _, HLN2.out.2.2.alloc _⟩).grown HG3.out htag
   have hs3 : Same (fun j => j ≠ w.heap.size) w3 (w3.setCell ⟨w.heap.size, 0, none⟩ (.slice a' (lcs.length + 1) c')) := Same.setTail (Same.refl' _) (by simp)
   have hl3 : (lcs ++ [lc]).length = lcs.length + 1 := by simp
   refine ⟨⟨(Below.heap_setCell _ _ _ _ (by simp; omega)).trans (hkp _ (by omega)), (Below.heap_setCell _ _ _ _ (by simp; omega)).trans (hkp _ (by omega))⟩,
     ⟨by simp [World.setCell]; omega, fun j hj hl => (Below.heap_setCell _ _ _ _ (by simp; omega)).trans (hkp j (by omega))⟩,
     (below_app (belowA HB2.out _) (HO2.out.alloc _) (by omega) (by simp; omega) HG3.out).setCell (p := ⟨w.heap.size, 0, none⟩) (by simp) _, a', c', lcs ++ [lc], ?_, ?_, ha3.same hs3 (fun j hj => by omega)⟩
   · rw [hl3]; exact HBX3.out.set1 _
   · rw [hl3]; exact HO3.out.same hs3 (fun g hg => by have := (HO3.out.lt g hg).1; omega)
end Yd


namespace Yd
open Go Go.RowKit Go.Proofs

theorem collect_any (gf : Nat) (lb : Array Value) (eg : ∀ args w, (callFunc gf args).run Tryz.prog w = .ok (.enter gf args) w) (ls : List LnS) (w : World) (hlen : ls.length ≤ 100000)
   (hseq : ∀ W, Below w.heap.size w W → Iter Tryz.prog gf lb (RepLn W.heap.size) 0 (fun i => i < w.heap.size) ls W) :
   Calls Tryz.prog 34 #[.func (.func gf) #[] lb] w (RetLns ls w) := by
 have HC := hid (appendSeq_any gf lb eg ls w hlen hseq)
 clear hseq
 go_enter Tryz.func34, Tryz.ntmps34
 go_wp2_with fail
 refine HC.out.mono ?_
 rintro e Y ⟨a, c, lcs, rfl, h1, h2, h3⟩
 have H := hid (⟨h1, h2, h3⟩ : _ ∧ _ ∧ _)
 clear h1 h2 h3
 go_wp2_with fail
 go_ret
 exact ⟨a, c, lcs, rfl, H.out.1, H.out.2.1, H.out.2.2⟩

theorem many_le {h : HC} (hm : manyB h = true) : h.e.n ≤ 3000 ∧ h.d.n ≤ 3000 ∧ h.m.n ≤ 3000 ∧ h.w.n ≤ 3000 := by
 simp only [manyB, Bool.and_eq_true, decide_eq_true_eq] at hm
 obtain ⟨h1, h2⟩ := hm
 refine ⟨by omega, ?_, ?_, ?_⟩ <;> (split at h2 <;> split at h2 <;> omega)
theorem lines_len {h : HC} {nl : Nat → List Bs} {es : List EvC} {ds : List OrC} {ms : List MaC} {qs : List Wa} {scan : EvC → List Sn} {dn : OrC → List Int} {mn : MaC → List Int} {w : World} (hd : Deep w h es ds ms qs scan dn mn)
   (hs : shapedB h nl es ds ms qs scan dn mn = true) : (linesS nl es ds ms qs scan dn mn).length ≤ 12000 := by
 simp only [shapedB, namesB, Bool.and_eq_true] at hs
 have := many_le hs.1.1.1.1.1
 have h1 := hd.1.len; have h2 := hd.2.1.len; have h3 := hd.2.2.1.len; have h4 := hd.2.2.2.1.len
 simp only [linesS, List.length_append, List.length_map]
 omega
section
variable (h : HC) (nl : Nat → List Bs) (es : List EvC) (ds : List OrC) (ms : List MaC) (qs : List Wa) (scan : EvC → List Sn) (dn : OrC → List Int) (mn : MaC → List Int) (w : World) (hg : GlobH w)
   (hn : ∀ i, i < 4 → Row w 1 encStr (h.nm i).a (h.nm i).n (h.nm i).c (nl i)) (hd : Deep w h es ds ms qs scan dn mn)
include hg hn hd
theorem plines_no (hc : checkB h nl es ds ms qs scan dn mn = false) : Calls Tryz.prog 8 #[valH h] w (Ret2 (.slice none 0 0) (.int .i64 210) w) := by
 have hb0 := belowA (Below.refl w.heap.size w) (.cells (cellsH h) 28)
 have HC := hid (check_any h nl es ds ms qs scan dn mn _ (hg.below hb0) (fun i hi => (hn i hi).below hb0 rfl) (hd.below hb0 rfl))
 rw [hc] at HC
 have HB := hid hb0
 clear hg hn hd hc hb0
 go_enter Tryz.func8, Tryz.ntmps8
 go_wp2_with fail
 refine HC.out.mono ?_
 rintro e w1 ⟨rfl, hb1⟩
 have HB1 := hid (HB.out.trans (hb1.mono HB.out.size))
 clear hb1
 rw [show checkE false = 210 from rfl]
 go_wp2_with fail
 go_ret2
 exact ⟨rfl, HB1.out⟩
def RetLns2 (ls : List LnS) (w : World) (e : Ending) (Y : World) : Prop := ∃ a c lcs, e = .returned (.tuple #[.slice a lcs.length c, .int .i64 0]) ∧ Own Y w.heap.size 41 6 encLn (.slice a lcs.length c) lcs ∧ LnsAt Y w.heap.size lcs ls ∧ Below w.heap.size w Y
theorem plines_yes (hc : checkB h nl es ds ms qs scan dn mn = true) : Calls Tryz.prog 8 #[valH h] w (RetLns2 (linesS nl es ds ms qs scan dn mn) w) := by
 have hsh : shapedB h nl es ds ms qs scan dn mn = true := by simp only [checkB, Bool.and_eq_true] at hc; exact hc.1.1
 have hb0 := belowA (Below.refl w.heap.size w) (.cells (cellsH h) 28)
 have HC := hid (check_any h nl es ds ms qs scan dn mn _ (hg.below hb0) (fun i hi => (hn i hi).below hb0 rfl) (hd.below hb0 rfl))
 rw [hc] at HC
 have HB := hid hb0; have HSH := hid hsh; have HN := hid hn; have HD := hid hd
 have HBX := hid (Bx.new w (cellsH h) 28)
 clear hg hn hd hc hb0 hsh
 go_enter Tryz.func8, Tryz.ntmps8
 go_wp2_with fail
 refine HC.out.mono ?_
 rintro e w1 ⟨rfl, hb1⟩
 have HB1 := hid (HB.out.trans (hb1.mono HB.out.size))
 have hx := (HBX.out.keep hb1).1
 clear hb1
 rw [show checkE true = 0 from rfl]
 go_wp2_with fail
 refine (lines_fn h w1).mono ?_
 rintro e W ⟨rfl, hz, hbW, hL⟩
 have hbw := HB1.out.trans (hbW.mono HB1.out.size)
 have HCO := hid (collect_any 72 #[.pointer (some ⟨w1.heap.size, 0, none⟩), .pointer (some ⟨w1.heap.size + 3, 0, none⟩), .pointer (some ⟨w1.heap.size + 4, 0, none⟩), .pointer (some ⟨w1.heap.size + 5, 0, none⟩), .pointer (some ⟨w1.heap.size + 6, 0, none⟩)] call_l5 (linesS nl es ds ms qs scan dn mn) W
   (by have := lines_len HD.out HSH.out; omega)
   (fun W' hW' => lines_iter h nl es ds ms qs scan dn mn w1.heap.size (fun i => i < W.heap.size) w W' HN.out HD.out HSH.out (hL.keep (fun i h1 h2 => hW'.block i (by omega)))
     (fun a v hc => ((hbw.trans (hW'.mono hbw.size)).cell (cell_lt hc)).trans hc) (by have := hbw.size; have := hW'.size; omega) (fun i hi => by have := hbw.size; omega) (fun i h1 h2 => by omega)))
 have HBW := hid hbw
 clear hz hbW hL hbw hx
 go_wp2_with fail
 refine HCO.out.mono ?_
 rintro e Y ⟨a, c, lcs, rfl, h1, h2, h3⟩
 have H := hid (⟨h1, h2, h3⟩ : _ ∧ _ ∧ _)
 clear h1 h2 h3
 go_wp2_with fail
 go_ret2
 refine ⟨a, c, lcs, rfl, H.out.1.mono HBW.out.size, ⟨H.out.2.1.1, fun i l hl => let ⟨s, g1, g2⟩ := H.out.2.1.2 i l hl; ⟨s, g1, g2.mono HBW.out.size⟩⟩, HBW.out.trans (H.out.2.2.mono HBW.out.size)⟩
end
end Yd
