import Derived.Test.YthkpjdgmpjhhmaaGreatDoorTextA
import Derived.Test.YthkpjdgmpjhhmaaGreatDoorProg
set_option maxRecDepth 200000
set_option maxHeartbeats 8000000
namespace Yd
open Go Go.RowKit Go.Proofs
attribute [local go_sem] Oper.semAt_some

def RetTxt (ls : List LnS) (w : World) (e : Ending) (w' : World) : Prop :=
 e = .returned (if (textA ls).length ≤ 131072 then .tuple #[.string ⟨(textA ls).toArray⟩, .int .i64 0] else .tuple #[.string ⟨#[]⟩, .int .i64 3]) ∧ Below w.heap.size w w'
theorem pairs_len (l : List (Bs × To)) : (l.flatMap (fun p => [p.1, toldT p.2])).length = 2 * l.length := by
 induction l with
 | nil => rfl
 | cons a l ih => rw [List.flatMap_cons, List.length_append, ih, List.length_cons]; simp only [List.length_cons, List.length_nil]; omega
theorem words_count {s : LnS} (h1 : s.names.length ≤ 1000) (h2 : s.vers.length ≤ 1000) : (wordsS s).length ≤ 5000 := by
 have ha : (if formR s.kind.toNat = 108 then [levelT s.lvl.toNat] else if formR s.kind.toNat = 118 then (s.vers.take 1).map toldT else if formR s.kind.toNat = 103 then guardsW s.bits else if formR s.kind.toNat = 109 ∧ s.first = true then [[45]] else ([] : List Bs)).length ≤ 4 := by
   split
   · simp
   · split
     · rw [List.length_map, List.length_take]; omega
     · split
       · exact guardsN_len _ 4
       · split <;> decide
 have hb : (if formR s.kind.toNat = 115 then ((s.names.drop (formN s.kind.toNat).toNat).zip s.vers).flatMap (fun p => [p.1, toldT p.2]) else s.names.drop (formN s.kind.toNat).toNat).length ≤ 2000 := by
   split
   · rw [pairs_len, List.length_zip]; omega
   · rw [List.length_drop]; omega
 have hc : (s.names.take (formN s.kind.toNat).toNat).length ≤ 1000 := by rw [List.length_take]; omega
 simp only [wordsS, List.cons_append, List.length_cons, List.length_append] at *
 omega
theorem textS_len {s : LnS} (h : lineOk s) : (textS s).length ≤ 300000 := by
 have h1 := words_count h.len.1 h.len.2
 have h2 := join_len _ (words_len s h.1 h.2.1)
 simp only [textS, List.length_append, List.length_cons, List.length_nil]
 omega
structure PtAt (h : HC) (ls : List LnS) (w w1 : World) (l : Nat) (X : World) : Prop where
 b : Below w.heap.size w X
 x1 : Bx X (w.heap.size + 1) #[.string ⟨#[]⟩]
 x2 : Bx X (w.heap.size + 2) #[.int .i64 0]
 la : LinesAt h (w1.heap.size + 1) X
 bl : BldAt w1.heap.size l (textA ls) X
 le : (textA ls).length ≤ 131072
 sz : l ≤ X.heap.size
theorem PtAt.same {h : HC} {ls : List LnS} {w w1 X Y : World} {l : Nat} (s : PtAt h ls w w1 l X) (hs : Same (fun i => i < l ∨ l + 2 ≤ i) X Y) (h3 : w.heap.size + 3 ≤ w1.heap.size) (hl : w1.heap.size + 8 ≤ l) : PtAt h ls w w1 l Y :=
 ⟨hs.below s.b (fun i hi => .inl (by omega)) s.b.size, hs.bx s.x1 (.inl (by omega)), hs.bx s.x2 (.inl (by omega)), s.la.keep (fun i _ h2 => hs.block i (.inl (by omega)) (by have := s.la.lt; omega)), s.bl.same hs (by omega), s.le, Nat.le_trans s.sz hs.size⟩
theorem LinesAt.kept {h : HC} {b : Nat} {X Y : World} (s : LinesAt h b X) (hk : ∀ i o, b ≤ i ∧ i < b + 7 → (∀ c fz, o ≠ Obj.cells c 5 fz) → X.heap[i]? = some o → Y.heap[i]? = some o) : ∀ i, b ≤ i → i < b + 7 → Y.heap[i]? = X.heap[i]? := by
 intro i h1 h2
 obtain ⟨j, rfl⟩ : ∃ j, i = b + j := ⟨i - b, by omega⟩
 have hj : j = 0 ∨ j = 1 ∨ j = 2 ∨ j = 3 ∨ j = 4 ∨ j = 5 ∨ j = 6 := by omega
 rcases hj with rfl | rfl | rfl | rfl | rfl | rfl | rfl
 · exact (hk _ _ ⟨h1, h2⟩ (fun _ _ e => by cases e) s.o0).trans s.o0.symm
 · exact (hk _ _ ⟨h1, h2⟩ (fun _ _ e => by cases e) s.o1).trans s.o1.symm
 · exact (hk _ _ ⟨h1, h2⟩ (fun _ _ e => by cases e) s.o2).trans s.o2.symm
 · exact (hk _ _ ⟨h1, h2⟩ (fun _ _ e => by cases e) s.o3).trans s.o3.symm
 · exact (hk _ _ ⟨h1, h2⟩ (fun _ _ e => by cases e) s.o4).trans s.o4.symm
 · exact (hk _ _ ⟨h1, h2⟩ (fun _ _ e => by cases e) s.o5).trans s.o5.symm
 · exact (hk _ _ ⟨h1, h2⟩ (fun _ _ e => by cases e) s.o6).trans s.o6.symm
structure PtEx (w w1 : World) (l : Nat) (X : World) : Prop where
 b : Below w.heap.size w X
 x1 : Bx X (w.heap.size + 1) #[.string ⟨#[]⟩]
 x2 : Bx X (w.heap.size + 2) #[.int .i64 3]
theorem PtEx.same {w w1 X Y : World} {l : Nat} (s : PtEx w w1 l X) (hs : Same (fun i => i < l ∨ l + 2 ≤ i) X Y) (h3 : w.heap.size + 3 ≤ w1.heap.size) (hl : w1.heap.size + 8 ≤ l) : PtEx w w1 l Y :=
 ⟨hs.below s.b (fun i hi => .inl (by omega)) s.b.size, hs.bx s.x1 (.inl (by omega)), hs.bx s.x2 (.inl (by omega))⟩
section
variable (h : HC) (nl : Nat → List Bs) (es : List EvC) (ds : List OrC) (ms : List MaC) (qs : List Wa) (scan : EvC → List Sn) (dn : OrC → List Int) (mn : MaC → List Int) (w : World) (hg : GlobL w)
   (hn : ∀ i, i < 4 → Row w 1 encStr (h.nm i).a (h.nm i).n (h.nm i).c (nl i)) (hd : Deep w h es ds ms qs scan dn mn)
include hg hn hd
theorem ptext_yes (hc : checkB h nl es ds ms qs scan dn mn = true) : Calls Tryz.prog 12 #[valH h] w (RetTxt (linesS nl es ds ms qs scan dn mn) w) := by
 have hsh : shapedB h nl es ds ms qs scan dn mn = true := by simp only [checkB, Bool.and_eq_true] at hc; exact hc.1.1
 have hb0 := belowA (belowA (belowA (Below.refl w.heap.size w) (.cells (cellsH h) 28)) (.cells #[.string ⟨#[]⟩] 9)) (.cells #[.int .i64 0] 32)
 have HC := hid (check_any h nl es ds ms qs scan dn mn _ (hg.1.below hb0) (fun i hi => (hn i hi).below hb0 rfl) (hd.below hb0 rfl))
 rw [hc] at HC
 have HB := hid hb0; have HSH := hid hsh; have HN := hid hn; have HD := hid hd; have HG := hid hg
 have HX0 := hid (Bx.alloc (Bx.alloc (Bx.new w (cellsH h) 28) (.cells #[.string ⟨#[]⟩] 9)) (.cells #[.int .i64 0] 32))
 have HX1 := hid (Bx.alloc (Bx.new1 (b := w.heap.size + 1) (cs := #[.string ⟨#[]⟩]) (X := w.alloc (.cells (cellsH h) 28)) (T := 9) (by simp)) (.cells #[.int .i64 0] 32))
 have HX2 : Hid (Bx (((w.alloc (.cells (cellsH h) 28)).alloc (.cells #[.string ⟨#[]⟩] 9)).alloc (.cells #[.int .i64 0] 32)) (w.heap.size + 2) #[.int .i64 0]) := hid (Bx.new1 (by simp))
 have hz0 : (((w.alloc (.cells (cellsH h) 28)).alloc (.cells #[.string ⟨#[]⟩] 9)).alloc (.cells #[.int .i64 0] 32)).heap.size = w.heap.size + 3 := by simp
 clear hg hn hd hc hb0 hsh
 refine (callsIn_wide (n := 3)).1 ?_
 refine callsIn_of_wp_marks Tryz.func12 rfl trivial ?_ rfl
 simp only [Tryz.ntmps12, List.size_toArray, List.length_cons, List.length_nil, Nat.reduceAdd, Nat.reduceSub, Array.replicate_succ, Array.replicate_zero, List.push_toArray, List.append_toArray, List.nil_append, List.cons_append]
 refine wpIn_wide.2 ?_
 go_wp2_with fail
 refine HC.out.mono ?_
 rintro e w1 ⟨rfl, hb1⟩
 have HB1 := hid (HB.out.trans (hb1.mono HB.out.size))
 have hx0 := HX0.out.keep hb1; have hx1 := HX1.out.keep hb1; have hx2 := HX2.out.keep hb1
 have hz1 : w.heap.size + 3 ≤ w1.heap.size := by have := hb1.size; omega
 have HXS := hid (⟨hx0, hx1, hx2⟩ : _ ∧ _ ∧ _)
 have hc0 := hx0.1; have hl0 : w.heap.size < w1.heap.size := by omega
 clear hb1 hx0 hx1 hx2 HX0 HX1 HX2 HC hz0
 rw [show checkE true = 0 from rfl]
 go_wp2_with (go_at_call 35; refine (lines_fn _ _).mono ?_; rintro e W ⟨rfl, hsz, hbW, hLA⟩)
 have hbb : W.heap[w1.heap.size]? = some (.cells #[.pointer none, .slice none 0 0] 38 (0, 0)) := (hbW.block _ (by simp)).trans (World.alloc_heap_new w1 _)
 have hbld : BldAt w1.heap.size W.heap.size (textA []) W :=
   ⟨.inl ⟨Nat.le_refl _, .slice none 0 0, hbb, World.ownsRowF_nil _ _ _ _, fun e => (by cases e)⟩, fun p v hb => by rw [hbb] at hb; cases hb; exact ⟨fun e => (by cases e), fun e => (by cases e)⟩⟩
 have hsW : W.heap.size = w1.heap.size + 8 := by rw [hsz]; simp
 have hbw : Below w.heap.size w W := (HB1.out.alloc HB1.out.size _).trans (hbW.mono (by have := HB1.out.size; simp; omega))
 have hkW : Below w1.heap.size w1 W := (belowA (Below.refl _ _) _).trans (hbW.mono (by simp))
 have hpt : PtAt h [] w w1 W.heap.size W := ⟨hbw, HXS.out.2.1.keep hkW, HXS.out.2.2.keep hkW, by have := hLA; simpa using this, hbld, Nat.zero_le _, Nat.le_refl _⟩
 have HPT := hid hpt
 have HL := hid (lines_len (HD.out) HSH.out)
 clear hbb hbld hkW hbW hLA hpt
 refine wpIn_wide.1 (wpIn_iter2 (n := 3) (gf := 72) (lb := #[.pointer (some ⟨w1.heap.size + 1, 0, none⟩), .pointer (some ⟨w1.heap.size + 1 + 3, 0, none⟩), .pointer (some ⟨w1.heap.size + 1 + 4, 0, none⟩), .pointer (some ⟨w1.heap.size + 1 + 5, 0, none⟩), .pointer (some ⟨w1.heap.size + 1 + 6, 0, none⟩)]) (by simp [go_sem]) call_l5
   (Rep := RepLn (W.heap.size + 2)) (k := 0) (D := fun i => i < w.heap.size ∨ (w1.heap.size + 1 ≤ i ∧ i < w1.heap.size + 1 + 7)) (xs := linesS nl es ds ms qs scan dn mn)
   (fun W' hW hWs => by
     have := lines_iter h nl es ds ms qs scan dn mn (w1.heap.size + 1) (fun i => i < w.heap.size ∨ (w1.heap.size + 1 ≤ i ∧ i < w1.heap.size + 1 + 7)) w W' HN.out HD.out HSH.out
       (HPT.out.la.keep (fun i _ h2 => hW.block i (by omega))) (fun a v hc => (bget hW rfl (bget hbw rfl hc))) (Nat.le_trans hbw.size hW.size) (fun i hi => .inl hi) (fun i h1 h2 => .inr ⟨h1, h2⟩)
     rwa [hWs] at this) (by omega)
   (fun x args X hx => by obtain ⟨_, rfl, _⟩ := hx; rfl)
   (fun pre X => PtAt h pre w w1 W.heap.size X)
   (fun c _ X => c = .ret ∧ 131072 < (textA (linesS nl es ds ms qs scan dn mn)).length ∧ PtEx w w1 W.heap.size X)
   (fun pre X Y hh k => hh.same (k.mono (fun i hi _ => by omega)) (by omega) (by omega))
   (fun c _ X Y hh k => ⟨hh.1, hh.2.1, hh.2.2.same (k.mono (fun i hi _ => by omega)) (by omega) (by omega)⟩)
   HPT.out ?round ?done ?stop)
 case round =>
   rintro pre x args X hpt hpre ⟨lc, rfl, hln⟩ hszX m
   have HP := hid hpt; have HLN := hid hln; have HSW := hid hsW
   clear hpt hln hsz
   have hmem : x ∈ linesS nl es ds ms qs scan dn mn := by obtain ⟨t, e⟩ := hpre; rw [← e]; simp
   have HOK := hid (lines_ok HSH.out (fun i hi => (HN.out i hi).len) x hmem)
   have HPRE := hid hpre
   clear hmem hpre hsW
   gi_wp2
   refine ⟨belowA (Below.refl _ _) _, fun X2 hk hd0 hd1 => ?_⟩
   have hsW := HSW.out
   have hp2 : PtAt h pre w w1 W.heap.size X2 := by
     have h1 : PtAt h pre w w1 W.heap.size (X.alloc (.cells (cellsLn lc) 41)) := HP.out.same (Same.of_below (B := X.heap.size) (belowA (Below.refl _ _) _) (fun i _ hi => hi)) (by omega) (by omega)
     exact h1.same (hk.mono (fun i hi _ => by omega)) (by omega) (by omega)
   have hl2 := hk.bx (Bx.new1 (b := X.heap.size) rfl) (by omega)
   have hn2 : LnAt X2 (W.heap.size + 2) lc x := ⟨HLN.out.1, ((HLN.out.2.1.alloc _).same hk (fun g hg => by have := (HLN.out.2.1.lt g hg).1; omega)), ((HLN.out.2.2.alloc _).same hk (fun g hg => by have := (HLN.out.2.2.lt g hg).1; omega))⟩
   have HP2 := hid hp2
   have HTX := hid (text_all hn2 HOK.out (HG.out.below HP2.out.b))
   have hcl := hl2.1
   have HD0 := hid hd0; have HD1 := hid hd1
   clear hk hp2 hl2 hn2 hd0 hd1 hsW
   gi_wp2
   refine ⟨trivial, by simp [Fence.wide], (CallsIn.inRound _ (callsIn_wide.2 HTX.out)).mono ?_⟩
   rintro e X3 ⟨rfl, hb3⟩
   have HB3 := hid hb3
   have hb3' := HP2.out.bl.call hb3
   have hlen : (Lib.byteCells (textA pre)).length + (⟨(textS x).toArray⟩ : ByteArray).size ≤ 140737488355328 := by
     have h1 := textS_len HOK.out; have h2 := HP2.out.le
     rw [Lib.byteCells_length]; simp only [ByteArray.size, List.size_toArray]; omega
   have HW := hid (bld_write w1.heap.size w1.heap.size (Lib.byteCells (textA pre)) ⟨(textS x).toArray⟩ X3 hb3'.is hlen (Nat.le_of_lt hb3'.lt))
   have HBL3 := hid hb3'
   clear hb3 hb3' hlen
   gi_wp2
   refine ⟨trivial, fun h => (by cases h), (CallsIn.inRound _ (callsIn_wide.2 HW.out)).mono ?_⟩
   rintro e X4 ⟨rfl, hbl4, hb4, hk4⟩
   have htx : textA (pre ++ [x]) = textA pre ++ textS x := by simp [textA]
   have hcs : Lib.byteCells (textA pre) ++ Lib.strCells ⟨(textS x).toArray⟩ = Lib.byteCells (textA (pre ++ [x])) := by rw [htx]; simp [Lib.byteCells, Lib.strCells]
   rw [hcs] at hbl4
   have HLEN := hid (Tryz.Builder_Len_f w1.heap.size w1.heap.size _ X4 (.inr hbl4))
   have HBL4 := hid hbl4; have HB4 := hid hb4; have HK4 := hid hk4
   clear hbl4 hb4 hk4 htx hcs
   gi_wp2
   refine ⟨trivial, fun h => (by cases h), (CallsIn.inRound _ (callsIn_wide.2 HLEN.out)).mono ?_⟩
   rintro e X5 ⟨rfl, rfl⟩
   rw [Lib.byteCells_length]
   have hsW := HSW.out
   have hfr : ∀ i o, X2.heap[i]? = some o → i ≠ w1.heap.size → (∀ c fz, o ≠ .cells c 5 fz) → X5.heap[i]? = some o := fun i o h1 h2 h3 =>
     HK4.out i o ((HB3.out.block i (Array.getElem?_eq_some_iff.1 h1).1).trans h1) (by simpa using h2) h3
   have hst : Same (fun i => i < w1.heap.size) X2 X5 := (Same.of_below (A := fun i => i < w1.heap.size) ((HB3.out.mono (by have := HP2.out.sz; omega)).trans HB4.out) (fun i hi _ => hi))
   have hla : ∀ i, w1.heap.size + 1 ≤ i → i < w1.heap.size + 1 + 7 → X5.heap[i]? = X2.heap[i]? := HP2.out.la.kept (fun i o h1 h2 h3 => hfr i o h3 (by omega) h2)
   have hdl : X5.heap[W.heap.size]? = X2.heap[W.heap.size]? := (hfr _ _ HD0.out (by omega) (fun _ _ e => by cases e)).trans HD0.out.symm
   have hdl1 : X5.heap[W.heap.size + 1]? = X2.heap[W.heap.size + 1]? := by obtain ⟨o, ho⟩ := HD1.out; exact (hfr _ _ ho (by omega) (fun _ _ e => by cases e)).trans ho.symm
   have hbl5 : BldAt w1.heap.size W.heap.size (textA (pre ++ [x])) X5 := by
     obtain ⟨o, ho⟩ := HD1.out
     exact HBL3.out.wrote (.inr HBL4.out) HK4.out (by omega) ((HB3.out.block _ (Array.getElem?_eq_some_iff.1 HD0.out).1).trans HD0.out) ((HB3.out.block _ (Array.getElem?_eq_some_iff.1 ho).1).trans ho) (fun _ _ e => by cases e) (fun _ _ e => by cases e)
   have hsz5 := hst.size
   have hp5 : Below w.heap.size w X5 := hst.below HP2.out.b (fun i hi => by omega) HP2.out.b.size
   have hx51 := hst.bx HP2.out.x1 (by omega); have hx52 := hst.bx HP2.out.x2 (by omega)
   have hkd : KeepOn (fun i => i < w.heap.size ∨ (w1.heap.size + 1 ≤ i ∧ i < w1.heap.size + 1 + 7)) X2 X5 := ⟨hst.size, fun i hi hl => hi.elim (fun hi => hst.block i (by omega) hl) (fun hi => hla i hi.1 hi.2)⟩
   have HE := hid (⟨⟨hdl, hdl1⟩, hkd, hp5, hx51, hx52, HP2.out.la.keep hla, hbl5, Nat.le_trans HP2.out.sz hsz5⟩ : (_ ∧ _) ∧ _ ∧ _ ∧ _ ∧ _ ∧ _ ∧ _ ∧ _)
   have hq1 := hx51.1; have hf1 := hx51.2.1; have hl1 := hx51.2.2; have hq2 := hx52.1; have hf2 := hx52.2.1; have hl2 := hx52.2.2
   clear hfr hst hla hdl hdl1 hbl5 hsz5 hp5 hkd hsW hx51 hx52
   by_cases hle : (textA (pre ++ [x])).length ≤ 131072
   · have hgt : ¬ (((textA (pre ++ [x])).length : Int) > 131072) := by omega
     gi_wp2
     obtain ⟨⟨e1, e2⟩, e3, e4, e5, e6, e7, e8, e9⟩ := HE.out
     exact ⟨⟨e1, e2⟩, e3, e4, e5, e6, e7, e8, hle, e9⟩
   · have hgt : (((textA (pre ++ [x])).length : Int) > 131072) := by omega
     gi_wp2
     obtain ⟨⟨e1, e2⟩, e3, e4, e5, e6, _, _, e9⟩ := HE.out
     have hsW := HSW.out
     have hpz := HP2.out.b.size
     have hs2 : Same (fun i => i ≠ w.heap.size + 1 ∧ i ≠ w.heap.size + 2) X5 ((X5.setCell ⟨w.heap.size + 1, 0, none⟩ (.string ⟨#[]⟩)).setCell ⟨w.heap.size + 2, 0, none⟩ (.int .i64 3)) := Same.setTail (Same.setTail (Same.refl' _) (by simp)) (by simp)
     have hz5 : W.heap.size + 2 ≤ X5.heap.size := by obtain ⟨o, ho⟩ := HD1.out; rw [← e2] at ho; have := (Array.getElem?_eq_some_iff.1 ho).1; omega
     have hbig : 131072 < (textA (linesS nl es ds ms qs scan dn mn)).length := by
       obtain ⟨t, e⟩ := HPRE.out
       rw [← e]
       simp only [textA, List.flatMap_append, List.length_append] at hle ⊢
       omega
     exact ⟨⟨(hs2.block _ (by omega) (by omega)).trans e1, (hs2.block _ (by omega) (by omega)).trans e2⟩,
       e3.trans ⟨hs2.size, fun i hi hl => hs2.block i (by rcases hi with hi | hi <;> omega) hl⟩, rfl, hbig,
       ⟨hs2.below e4 (fun i hi => by omega) e4.size, (Same.setTail (A := fun i => i ≠ w.heap.size + 2) (Same.refl' _) (by simp)).bx (Bx.set1 e5 _) (by simp), Bx.set1 ((Same.setTail (A := fun i => i ≠ w.heap.size + 1) (Same.refl' _) (by simp)).bx e6 (by simp)) _⟩⟩
 case done =>
   intro X hpt hdef
   have HP := hid hpt
   clear hpt
   simp only [Exit.inBlock, Exit.then]
   have hst := Tryz.Builder_String_any_k w1.heap.size w1.heap.size (textA (linesS nl es ds ms qs scan dn mn)) X HP.out.bl.is (by have := HP.out.sz; omega)
   have HST := hid hst
   have HSW := hid hsW
   clear hst hsW hsz
   go_wp2_with (go_at_call 13; refine HST.out.mono ?_; rintro e Y ⟨rfl, hbl, hbY, hkY⟩; have hsW := HSW.out; have hsY := Same.of_below (A := fun i => i < w1.heap.size) hbY (fun i hi _ => hi); have hy1 := hsY.bx HP.out.x1 (by omega); have hy2 := hsY.bx HP.out.x2 (by omega); have hdY := hkY _ _ hdef (by simp; omega) (fun _ _ e => by cases e); have HBY := hid (hsY.below HP.out.b (fun i hi => by omega) HP.out.b.size); clear hbl hbY hkY hsY; have HDY := hid hdY; clear hdY; have hq1 := hy1.1; have hf1 := hy1.2.1; have hl1 := hy1.2.2; have hq2 := hy2.1; have hf2 := hy2.2.1; have hl2 := hy2.2.2; have HY1 := hid hy1; have HY2 := hid hy2; clear hy1 hy2 hsW)
   have hsW := HSW.out
   have hz1 : Bx ((Y.setCell ⟨w.heap.size + 1, 0, none⟩ (.string ⟨(textA (linesS nl es ds ms qs scan dn mn)).toArray⟩)).setCell ⟨w.heap.size + 2, 0, none⟩ (.int .i64 0)) (w.heap.size + 1) #[.string ⟨(textA (linesS nl es ds ms qs scan dn mn)).toArray⟩] :=
     (Same.setTail (A := fun i => i ≠ w.heap.size + 2) (Same.refl' _) (by simp)).bx (Bx.set1 HY1.out _) (by simp)
   have hz2 : Bx ((Y.setCell ⟨w.heap.size + 1, 0, none⟩ (.string ⟨(textA (linesS nl es ds ms qs scan dn mn)).toArray⟩)).setCell ⟨w.heap.size + 2, 0, none⟩ (.int .i64 0)) (w.heap.size + 2) #[.int .i64 0] :=
     Bx.set1 ((Same.setTail (A := fun i => i ≠ w.heap.size + 1) (Same.refl' _) (by simp)).bx HY2.out (by simp)) _
   have hzd : ((Y.setCell ⟨w.heap.size + 1, 0, none⟩ (.string ⟨(textA (linesS nl es ds ms qs scan dn mn)).toArray⟩)).setCell ⟨w.heap.size + 2, 0, none⟩ (.int .i64 0)).heap[W.heap.size]? = some (.deferred (some [])) :=
     (Below.heap_setCell _ _ _ _ (by simp; omega)).trans ((Below.heap_setCell _ _ _ _ (by simp; omega)).trans HDY.out)
   have hzb : Below w.heap.size w ((Y.setCell ⟨w.heap.size + 1, 0, none⟩ (.string ⟨(textA (linesS nl es ds ms qs scan dn mn)).toArray⟩)).setCell ⟨w.heap.size + 2, 0, none⟩ (.int .i64 0)) :=
     (HBY.out.setCell (p := ⟨w.heap.size + 1, 0, none⟩) (by simp) _).setCell (p := ⟨w.heap.size + 2, 0, none⟩) (by simp) _
   have hs : ∀ X', Same (fun i => i ≠ W.heap.size) X' (X'.putObj W.heap.size (.deferred none)) := fun X' => Same.putObj X' _ (by simp)
   have hw1 := (hs _).bx hz1 (by omega); have hw2 := (hs _).bx hz2 (by omega)
   have e1 := hw1.1 0; have e2 := hw2.1 0
   refine ⟨by simp, .inl ⟨_, _, rfl, run_takeDeferred hzd, ?_⟩⟩
   refine ⟨.tuple #[.string ⟨(textA (linesS nl es ds ms qs scan dn mn)).toArray⟩, .int .i64 0], by simp [results, Tryz.results12, go_sem, e1, e2], ?_, (hs _).below hzb (fun i hi => by omega) hzb.size⟩
   rw [if_pos HP.out.le]
 case stop =>
   rintro c pre X _ ⟨rfl, hbig, hex⟩ hdef
   have HEX := hid hex; have HBIG := hid hbig
   clear hex hbig
   refine wpIn_wide.2 ?_
   go_wp2_with fail
   have hs : Same (fun i => i ≠ W.heap.size) X (X.putObj W.heap.size (.deferred none)) := Same.putObj X _ (by simp)
   have hy1 := hs.bx HEX.out.x1 (by omega); have hy2 := hs.bx HEX.out.x2 (by omega)
   have e1 := hy1.1 0; have e2 := hy2.1 0
   refine ⟨by simp, .inl ⟨_, _, rfl, run_takeDeferred hdef, ?_⟩⟩
   refine ⟨.tuple #[.string ⟨#[]⟩, .int .i64 3], by simp [results, Tryz.results12, go_sem, e1, e2], ?_, hs.below HEX.out.b (fun i hi => by omega) HEX.out.b.size⟩
   rw [if_neg (by have := HBIG.out; omega)]
end
end Yd
