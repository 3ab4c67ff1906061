import Derived.Test.YthdpangjphphjaaGreatDoorROf
import Derived.Test.YthdpangjphphjaaGreatDoorCu13
import Derived.Test.YthdpangjphphjaaGreatDoorEnc
import Derived.Test.YthdpangjphphjaaGreatDoorRdV
import Derived.Test.YthdpangjphphjaaGreatDoorProg
set_option maxRecDepth 200000
set_option maxHeartbeats 8000000
namespace Yd
open Go Go.RowKit Go.Proofs

theorem names_stop {k : Int} {most f many : Nat} {n : LnS} {l l' : Bs} {er er' : Int} {X : Except Er (LnS × Bs)} (hf : er = 0 → ∃ g, f = g + 1) (h : anyE er l (moreS l) = mkR false l' er') (hX : X = anyE er l (namesD k most f many n l)) : X = mkR n l' er' := by
 by_cases he : er = 0
 · obtain ⟨g, rfl⟩ := hf he
   rw [namesD] at hX
   rw [any_step hX h, if_pos rfl]; rfl
 · rw [hX, anyE_n _ he]
   rw [anyE_n _ he] at h
   by_cases h' : er' = 0
   · subst h'; rw [mkR_0] at h; cases h
   · rw [mkR_n _ _ h'] at h ⊢; injection h with h; rw [h]
theorem long_pos {l : Bs} (h : 24 < runS l) : 0 < longS (l.take (runS l)) := by
 obtain ⟨u, hu⟩ : ∃ u, u = l.take (runS l) := ⟨_, rfl⟩
 have hlen : 24 < u.length := by rw [hu, List.length_take]; have := runS_le l; omega
 rw [← hu]
 have hne : u ≠ [] := by rintro rfl; simp at hlen
 obtain ⟨d, hd⟩ : ∃ d, d = (Utf8.decode ⟨u.toArray⟩ 0).2 := ⟨_, rfl⟩
 have hdb := dec_pos ⟨u.toArray⟩ 0
 rw [← hd] at hdb
 have hne2 : u.drop d ≠ [] := by intro e; have := congrArg List.length e; rw [List.length_drop] at this; simp at this; omega
 have key : ∀ M : List Nat, (∀ x ∈ M, d ≤ x) → 0 < ((0 :: (d + 0) :: M).getLast?).getD 0 := by
   intro M hM
   cases hg : (0 :: (d + 0) :: M).getLast? with
   | none => simp at hg
   | some y =>
     have hy : y ∈ (d + 0) :: M := by
       rw [List.getLast?_cons_cons] at hg
       exact List.mem_of_getLast? hg
     show 0 < y
     rcases List.mem_cons.1 hy with e | e
     · omega
     · have := hM y e; omega
 unfold longS
 rw [pos_cons u hne, ← hd, pos_cons (u.drop d) hne2, List.map_cons, List.filter_cons, if_pos (by decide), List.filter_cons, if_pos (by simp; omega)]
 refine key _ (fun x hx => ?_)
 obtain ⟨y, _, rfl⟩ := List.mem_map.1 (List.mem_filter.1 hx).1
 omega
theorem run_pos {b : UInt8} {t : Bs} (h : beginsS (b :: t) = true) : 0 < runS (b :: t) := by
 have hb : (okB ⟨(b :: t).toArray⟩ 0 && letB ((Utf8.decode ⟨(b :: t).toArray⟩ 0).1 : Int)) = true := by
   unfold beginsS at h
   simpa using h
 rw [Bool.and_eq_true] at hb
 have hw := dec_w (b :: t) (by simp)
 unfold runS
 rw [whileE_cons (b :: t) eitB (by simp), if_pos (by rw [hb.1]; unfold eitB; rw [hb.2]; rfl)]
 omega
theorem name_far {b : UInt8} {t : Bs} (he : endsS (b :: t) = false) {a : Bs} {l' : Bs} {er' : Int} (h : nameS (b :: t) = mkR a l' er') : (beginsS (b :: t) = true → l'.length < (b :: t).length) ∧ (beginsS (b :: t) = false → l' = b :: t) := by
 have hl : ∀ r, (∃ x, nameS (b :: t) = .ok (x, r)) ∨ (∃ m, nameS (b :: t) = .error (r, m)) → l' = r := by
   rintro r (⟨x, hx⟩ | ⟨m, hx⟩)
   · rw [hx] at h
     by_cases h0 : er' = 0
     · subst h0; rw [mkR_0] at h; injection h with h; injection h with _ h; exact h.symm
     · rw [mkR_n _ _ h0] at h; cases h
   · rw [hx] at h
     by_cases h0 : er' = 0
     · subst h0; rw [mkR_0] at h; cases h
     · rw [mkR_n _ _ h0] at h; injection h with h; injection h with h _; exact h.symm
 constructor
 · intro hB
   by_cases h24 : 24 < runS (b :: t)
   · rw [hl _ (.inr ⟨_, nameS_long he hB h24⟩), List.length_drop]
     have := long_pos h24
     simp; omega
   · rw [hl _ (.inl ⟨_, nameS_ok he hB (by omega)⟩), List.length_drop]
     have := run_pos hB
     simp; omega
 · intro hB
   exact hl _ (.inr ⟨_, nameS_nb hB⟩)
def curM (n B : Nat) (wr : World) : Nat := match wr.cell? ⟨B, 1, none⟩, wr.cell? ⟨B, 2, none⟩ with | some (.int _ q), some (.int _ e) => if e = 0 then n - q.toNat + 1 else 0 | _, _ => 0
theorem curM_lt {W W' : World} {B q q' : Nat} {s l l' : Bs} {e' : Int} (h : CuC W B s q l 0) (h' : CuC W' B s q' l' e') (hlt : e' = 0 → l'.length < l.length) : curM s.length B W' < curM s.length B W := by
 have a1 : W.cell? ⟨B, 1, none⟩ = some (.int .i64 (q : Int)) := h.x.1 1
 have a2 : W.cell? ⟨B, 2, none⟩ = some (.int .i64 0) := h.x.1 2
 have b1 : W'.cell? ⟨B, 1, none⟩ = some (.int .i64 (q' : Int)) := h'.x.1 1
 have b2 : W'.cell? ⟨B, 2, none⟩ = some (.int .i64 e') := h'.x.1 2
 have k := h.len; have k' := h'.len
 unfold curM
 simp only [a1, a2, b1, b2, Int.toNat_natCast, if_true]
 by_cases h0 : e' = 0
 · have := hlt h0
   rw [if_pos h0]; omega
 · rw [if_neg h0]; omega
theorem more_len {l r : Bs} {b : Bool} (h : moreS l = .ok (b, r)) : r.length ≤ l.length := by
 have := skipS_len l
 unfold moreS at h
 split at h
 · injection h with h; injection h with _ h; rw [← h]; exact this
 · split at h
   · cases h
   · injection h with h; injection h with _ h; rw [← h]; exact this
theorem must_len {l r : Bs} {u : Unit} (h : mustU l = .ok (u, r)) : r.length ≤ l.length := by
 unfold mustU at h
 cases hm : mustS l with
 | error x => rw [hm] at h; cases h
 | ok y => rw [hm] at h; injection h with h; injection h with _ h; subst h; exact more_len (must_true hm)
theorem name_ok_len {l r m : Bs} (h : nameS l = .ok (m, r)) : r.length ≤ l.length := by
 unfold nameS at h
 split at h
 · cases h
 · split at h
   · cases h
   · injection h with h; injection h with _ h; rw [← h, List.length_drop]; omega
theorem vers_len {l r : Bs} {v : To} (h : versS l = .ok (v, r)) : r.length ≤ l.length := by
 unfold versS at h
 split at h
 · injection h with h; injection h with _ h; rw [← h, List.length_tail]; omega
 · cases hn : nameS l with
   | error x => rw [hn] at h; cases h
   | ok y =>
     obtain ⟨m, r1⟩ := y
     rw [hn] at h
     have h1 := name_ok_len hn
     simp only [] at h
     split at h
     · unfold numV at h
       simp only [] at h
       split at h
       · cases h
       · split at h
         · cases h
         · injection h with h; injection h with _ h; rw [← h, List.length_drop, List.length_tail]; omega
     · cases h
@[reducible] def aheadW (w : World) (s : Bs) (p : Nat) : World := w.alloc (.cells (cellsCu s p 0) 62)
theorem ahead_below (w : World) (s : Bs) (p : Nat) : Below w.heap.size w (aheadW w s p) := belowA (Below.refl w.heap.size w) (.cells (cellsCu s p 0) 62)
theorem ahead_cu {w : World} {B p : Nat} {s l : Bs} (h : CuC w B s p l 0) : CuC (aheadW w s p) w.heap.size s p l 0 := ⟨Bx.new w (cellsCu s p 0) 62, h.d, h.le, h.lim⟩
theorem cu_names {B p : Nat} {s l : Bs} {er : Int} {c : LnC} {n : LnS} (w : World) (h : CuC w B s p l er) (hl : LnAt w (B + 1) c n) (most : Nat) (hml : most ≤ 300) (hN : n.names.length ≤ 600) (hV : n.vers.length ≤ 600) :
   Calls Tryz.prog 94 #[.pointer (some ⟨B, 0, none⟩), valLn c, .int .i64 (most : Int)] w (fun e w' => ∃ (c' : LnC) (n' : LnS) (p' : Nat) (l' : Bs) (er' : Int), e = .returned (valLn c') ∧ CuC w' B s p' l' er' ∧ LnAt w' (B + 1) c' n' ∧ Mv B c c' w w' ∧ anyE er l (namesD n.kind most (most + 2) 0 n l) = mkR n' l' er') := by
 obtain ⟨X, hX⟩ : ∃ X, X = anyE er l (namesD n.kind most (most + 2) 0 n l) := ⟨_, rfl⟩
 rw [← hX]
 obtain ⟨kd, hkd⟩ : ∃ kd, kd = n.kind := ⟨_, rfl⟩
 rw [← hkd] at hX
 obtain ⟨i, z, hi, hz, hsize, hby', hzs⟩ := partsStr
 have HI := hid (⟨hi, hz, hsize, hby', hzs⟩ : _ ∧ _ ∧ _ ∧ _ ∧ _)
 obtain ⟨i2, z2, hi2, hz2, hsize2, hby2, hzs2⟩ := partsTo
 have HI2 := hid (⟨hi2, hz2, hsize2, hby2, hzs2⟩ : _ ∧ _ ∧ _ ∧ _ ∧ _)
 clear hi hz hsize hby' hzs hi2 hz2 hsize2 hby2 hzs2
 have hb0 := belowA (belowA (Below.refl w.heap.size w) (.cells (cellsLn c) 28)) (.cells zeroLn 28)
 have hBb : B < w.heap.size := h.lt
 have HLB := hid (LnB.new hl hBb)
 have HC0 := hid (h.below hb0); have HB0 := hid hb0; have HX := hid hX; have HKD := hid hkd; have HNV := hid (⟨hN, hV⟩ : _ ∧ _); have HML := hid hml
 have HBB := hid hBb
 clear h hl hX hkd hN hV hb0 hml hBb
 go_enter Tryz.func94, Tryz.ntmps94
 go_wp2_with fail
 go_loopw [7] (fun i wr => ∃ (W : World) (k f q : Nat) (l1 : Bs) (er1 : Int) (c1 : LnC) (n1 : LnS), W = wr ∧ i = .int .i64 k ∧ CuC W B s q l1 er1 ∧ LnB W B w.heap.size c1 n1 ∧ Mv B c c1 w W ∧ X = anyE er1 l1 (namesD kd most f k n1 l1) ∧ n1.kind = kd ∧ k ≤ most + 1 ∧ (er1 = 0 → k ≤ most) ∧ most + 2 ≤ f + k + (if n1.first = true then 1 else 0) ∧ n1.names.length ≤ 600 + k ∧ n1.vers.length ≤ 600 + k) (fun i wr => curM s.length B wr)
 case atStart => exact ⟨_, 0, most + 2, p, l, er, c, n, rfl, rfl, HC0.out, HLB.out, Mv.of_below HB0.out, HX.out, HKD.out.symm, by omega, fun _ => by omega, by omega, HNV.out.1, HNV.out.2⟩
 case round =>
   obtain ⟨W, k, f, q, l1, er1, c1, n1, rfl, rfl, hc, hln, hmv, hx, hkk, hk, hk0, hf, h1, h2⟩ := hrel
   have HC := hid hc; have HLN := hid hln; have HM := hid hmv; have HXX := hid hx; have HKK := hid hkk; have HK := hid (⟨hk, hk0⟩ : _ ∧ _); have HF := hid hf; have H12 := hid (⟨h1, h2⟩ : _ ∧ _)
   have HFG : Hid (er1 = 0 → ∃ g, f = g + 1) := hid (fun e => ⟨f - 1, by have := hk0 e; split at hf <;> omega⟩)
   clear hc hln hmv hx hkk hk hk0 hf h1 h2
   go_wp2_with fail
   refine (cu_next_any _ HC.out).mono ?_
   rintro e w2 ⟨a, q2, l2, er2, rfl, hc2, hs2, hm2, hfa⟩
   have HC2 := hid hc2; have HLN2 := hid (HLN.out.cs hs2); have HM2 := hid (HM.out.cs hs2); have HMO := hid hm2; have HFA := hid hfa
   have HSW := hid hs2
   clear hc2 hs2 hm2 hfa
   cases a
   · have HXE := hid (names_stop HFG.out HMO.out HXX.out)
     have hcb := HLN2.out.x.1; have hfb := HLN2.out.x.2.1; have hct := HLN2.out.z.1; have hft := HLN2.out.z.2.1
     go_wp2_with fail
     refine bodyPost_ret (v := valLn c1) (by simp [results, Tryz.results94, go_sem, hct]) rfl ?_
     have hfin := HLN2.out.fin HC2.out HM2.out (Nat.le_refl _)
     exact ⟨c1, n1, q2, l2, er2, rfl, hfin.1, hfin.2.1, hfin.2.2, HXE.out⟩
   · have h0 : er2 = 0 := by apply Classical.byContradiction; intro e; have := HFA.out e; cases this
     subst h0
     obtain ⟨he1, hmo⟩ := mk_ok HMO.out rfl
     subst he1
     obtain ⟨g, hg⟩ := HFG.out rfl
     subst hg
     obtain ⟨b, t, hbt, hbl, hen⟩ := more_stands hmo
     subst hbt
     have hx := HXX.out
     rw [namesD] at hx
     have HX3 := hid (any_step hx HMO.out)
     clear hx
     have HBL := hid hbl; have HEN := hid hen; have HLM : Hid ((b :: t).length ≤ l1.length) := hid (more_len hmo); have hkm0 : Hid (k ≤ most) := hid (HK.out.2 rfl)
     clear hmo hbl hen HFG HFA HXX
     have c0 := HC2.out.x.1 0; have c1' := HC2.out.x.1 1; have c2' := HC2.out.x.1 2; have hcb := HLN2.out.x.1; have hfb := HLN2.out.x.2.1
     go_wp2_with fail
     have hck : c1.kind = kd := HLN2.out.n.1.1.trans HKK.out
     obtain ⟨fi, hfi⟩ : ∃ fi, fi = n1.first := ⟨_, rfl⟩
     have hcf : c1.first = fi := HLN2.out.n.1.2.2.1.trans hfi.symm
     have hk4 : w2.cell? ⟨w.heap.size, 0, none⟩ = some (.int .i64 kd) := by rw [← hck]; exact hcb 0
     have hf4 : w2.cell? ⟨w.heap.size, 4, none⟩ = some (.bool fi) := by rw [← hcf]; exact hcb 4
     have HFI := hid hfi; have HCK := hid hck
     clear hcb hfb hck hcf hfi
     have hix := fun W' => run_ix Tryz.underlying9 s q2 b HC2.out.at_ W'
     have hz := bsz s
     have hqb : q2 ≤ 1000000 := Nat.le_trans HC2.out.le HC2.out.lim
     refine wp_mono (Q := fun e a W => e = .normal ∧ W = w2.drew ∧ ∃ (d : Bool) (x19 x20 x21 x22 x23 x24 x25 x26 x27 x28 x29 x30 x31 x32 x33 x34 x35 x36 x37 x38 x39 x40 x41 : Value), a = { tmps := #[.pointer (some ⟨B, 0, none⟩), valLn c, .int .i64 (most : Int), undef, .pointer (some ⟨w.heap.size, 0, none⟩), undef, .pointer (some ⟨w.heap.size + 1, 0, none⟩), .int .i64 (k : Int), .int .i64 (q2 : Int), u9, u10, .pointer (some ⟨B, 0, none⟩), .bool true, u13, u14, .pointer (some ⟨B, 0, none⟩), .pointer (some ⟨B, 0, none⟩), .pointer (some ⟨B, 1, none⟩), .int .i64 (q2 : Int), x19, x20, x21, x22, x23, x24, x25, x26, x27, x28, x29, x30, x31, x32, x33, x34, x35, x36, x37, x38, x39, x40, x41, .bool d, u43, u44, u45, u46, u47, u48, u49, u50, u51, u52, u53, u54, u55, u56, u57, u58, u59, u60, u61, u62, u63, u64, u65, u66, u67, u68, u69, u70, u71, u72, u73, u74, u75, u76, u77, u78, u79, u80, u81, u82, u83, u84, u85, undef], defers := [] } ∧ (d = true → (kd = 8 ∧ k = 0 ∧ n1.first = false ∧ (b :: t).head? = some 45)) ∧ (d = false → ¬ (kd = 8 ∧ k = 0 ∧ n1.first = false ∧ (b :: t).head? = some 45))) ?_ ?_
     · skip
       cases h8 : (kd == 8)
       rotate_left
       · skip
         cases hk0 : ((k : Int) == 0)
         rotate_left
         · skip
           cases fi
           · skip
             cases h45 : ((b.toNat : Int) == 45)
             · skip
               refine wp_region_ordC 99 [(0, 0), (1, 0), (2, 0), (3, 0), (4, 0), (5, 0), (6, 0), (7, 0), (8, 0), (9, 0), (10, 0), (11, 0), (12, 0), (13, 0), (14, 0), (15, 0), (16, 0), (17, 0), (18, 0), (19, 0), (20, 0), (21, 0), (22, 0), (23, 0)] (fun _ => True) (fun W' => (W'.cell? ⟨B, 0, none⟩ = some (.string ⟨s.toArray⟩) ∧ W'.cell? ⟨B, 1, none⟩ = some (.int .i64 (q2 : Int))) ∧ W'.cell? ⟨w.heap.size, 0, none⟩ = some (.int .i64 kd) ∧ W'.cell? ⟨w.heap.size, 4, none⟩ = some (.bool false)) (by kernel_rfl) (by kernel_rfl) (trivial) ⟨⟨c0, c1'⟩, hk4, hf4⟩ ?_
               repeat ((first | refine ordC_skip rfl rfl ?_ | refine ordC_skip1 rfl rfl ?_ | ((first | refine ordC_q rfl rfl ?_ | refine ordC_p rfl rfl ?_); apply Exists.intro; refine ⟨fun wS hS => ?_, ?_⟩; (go_simp; try with_reducible rfl))); simp only [Act.put, List.setIfInBounds_toArray, List.set_cons_zero, List.set_cons_succ])
               refine ordC_nil ?_
               exact ⟨rfl, rfl, _, _, _, _, _, _, _, _, _, _, _, _, _, _, _, _, _, _, _, _, _, _, _, _, rfl, fun e => absurd e (by simp), fun _ e => by have := Option.some.inj e.2.2.2; rw [this] at h45; cases h45⟩
             · skip
               refine wp_region_ordC 99 [(0, 0), (1, 0), (2, 0), (3, 0), (4, 0), (5, 0), (6, 0), (7, 0), (8, 0), (9, 0), (10, 0), (11, 0), (12, 0), (13, 0), (14, 0), (15, 0), (16, 0), (17, 0), (18, 0), (19, 0), (20, 0), (21, 0), (22, 0), (23, 0)] (fun _ => True) (fun W' => (W'.cell? ⟨B, 0, none⟩ = some (.string ⟨s.toArray⟩) ∧ W'.cell? ⟨B, 1, none⟩ = some (.int .i64 (q2 : Int))) ∧ W'.cell? ⟨w.heap.size, 0, none⟩ = some (.int .i64 kd) ∧ W'.cell? ⟨w.heap.size, 4, none⟩ = some (.bool false)) (by kernel_rfl) (by kernel_rfl) (trivial) ⟨⟨c0, c1'⟩, hk4, hf4⟩ ?_
               repeat ((first | refine ordC_skip rfl rfl ?_ | refine ordC_skip1 rfl rfl ?_ | ((first | refine ordC_q rfl rfl ?_ | refine ordC_p rfl rfl ?_); apply Exists.intro; refine ⟨fun wS hS => ?_, ?_⟩; (go_simp; try with_reducible rfl))); simp only [Act.put, List.setIfInBounds_toArray, List.set_cons_zero, List.set_cons_succ])
               refine ordC_nil ?_
               exact ⟨rfl, rfl, _, _, _, _, _, _, _, _, _, _, _, _, _, _, _, _, _, _, _, _, _, _, _, _, rfl, fun _ => ⟨eq_of_beq h8, by have := eq_of_beq hk0; omega, HFI.out.symm, congrArg some (UInt8.toNat_inj.1 (by have := eq_of_beq h45; show b.toNat = 45; omega))⟩, fun e => absurd e (by simp)⟩
           · skip
             refine wp_region_ordC 99 [(0, 0), (1, 0), (2, 0), (3, 0), (4, 0), (5, 0), (6, 0), (7, 0), (8, 0), (9, 0), (10, 0), (11, 0), (12, 0), (13, 0), (14, 0), (15, 0), (16, 0), (17, 0), (18, 0), (19, 0), (20, 0), (21, 0), (22, 0), (23, 0)] (fun _ => True) (fun W' => (W'.cell? ⟨B, 0, none⟩ = some (.string ⟨s.toArray⟩) ∧ W'.cell? ⟨B, 1, none⟩ = some (.int .i64 (q2 : Int))) ∧ W'.cell? ⟨w.heap.size, 0, none⟩ = some (.int .i64 kd) ∧ W'.cell? ⟨w.heap.size, 4, none⟩ = some (.bool true)) (by kernel_rfl) (by kernel_rfl) (trivial) ⟨⟨c0, c1'⟩, hk4, hf4⟩ ?_
             repeat ((first | refine ordC_skip rfl rfl ?_ | refine ordC_skip1 rfl rfl ?_ | ((first | refine ordC_q rfl rfl ?_ | refine ordC_p rfl rfl ?_); apply Exists.intro; refine ⟨fun wS hS => ?_, ?_⟩; (go_simp; try with_reducible rfl))); simp only [Act.put, List.setIfInBounds_toArray, List.set_cons_zero, List.set_cons_succ])
             refine ordC_nil ?_
             exact ⟨rfl, rfl, _, _, _, _, _, _, _, _, _, _, _, _, _, _, _, _, _, _, _, _, _, _, _, _, rfl, fun e => absurd e (by simp), fun _ e => by have := e.2.2.1; rw [← HFI.out] at this; cases this⟩
         · have hk0n : (k == 0) = false := by cases k with | zero => cases hk0 | succ k => rfl
           refine wp_region_ordC 99 [(0, 0), (1, 0), (2, 0), (3, 0), (4, 0), (5, 0), (6, 0), (7, 0), (8, 0), (9, 0), (10, 0), (11, 0), (12, 0), (13, 0), (14, 0), (15, 0), (16, 0), (17, 0), (18, 0), (19, 0), (20, 0), (21, 0), (22, 0), (23, 0)] (fun _ => True) (fun W' => (W'.cell? ⟨B, 0, none⟩ = some (.string ⟨s.toArray⟩) ∧ W'.cell? ⟨B, 1, none⟩ = some (.int .i64 (q2 : Int))) ∧ W'.cell? ⟨w.heap.size, 0, none⟩ = some (.int .i64 kd) ∧ W'.cell? ⟨w.heap.size, 4, none⟩ = some (.bool fi)) (by kernel_rfl) (by kernel_rfl) (trivial) ⟨⟨c0, c1'⟩, hk4, hf4⟩ ?_
           repeat ((first | refine ordC_skip rfl rfl ?_ | refine ordC_skip1 rfl rfl ?_ | ((first | refine ordC_q rfl rfl ?_ | refine ordC_p rfl rfl ?_); apply Exists.intro; refine ⟨fun wS hS => ?_, ?_⟩; (go_simp; try with_reducible rfl))); simp only [Act.put, List.setIfInBounds_toArray, List.set_cons_zero, List.set_cons_succ])
           refine ordC_nil ?_
           exact ⟨rfl, rfl, _, _, _, _, _, _, _, _, _, _, _, _, _, _, _, _, _, _, _, _, _, _, _, _, rfl, fun e => absurd e (by simp), fun _ e => by rw [e.2.1] at hk0; cases hk0⟩
       · skip
         refine wp_region_ordC 99 [(0, 0), (1, 0), (2, 0), (3, 0), (4, 0), (5, 0), (6, 0), (7, 0), (8, 0), (9, 0), (10, 0), (11, 0), (12, 0), (13, 0), (14, 0), (15, 0), (16, 0), (17, 0), (18, 0), (19, 0), (20, 0), (21, 0), (22, 0), (23, 0)] (fun _ => True) (fun W' => (W'.cell? ⟨B, 0, none⟩ = some (.string ⟨s.toArray⟩) ∧ W'.cell? ⟨B, 1, none⟩ = some (.int .i64 (q2 : Int))) ∧ W'.cell? ⟨w.heap.size, 0, none⟩ = some (.int .i64 kd) ∧ W'.cell? ⟨w.heap.size, 4, none⟩ = some (.bool fi)) (by kernel_rfl) (by kernel_rfl) (trivial) ⟨⟨c0, c1'⟩, hk4, hf4⟩ ?_
         repeat ((first | refine ordC_skip rfl rfl ?_ | refine ordC_skip1 rfl rfl ?_ | ((first | refine ordC_q rfl rfl ?_ | refine ordC_p rfl rfl ?_); apply Exists.intro; refine ⟨fun wS hS => ?_, ?_⟩; (go_simp; try with_reducible rfl))); simp only [Act.put, List.setIfInBounds_toArray, List.set_cons_zero, List.set_cons_succ])
         refine ordC_nil ?_
         exact ⟨rfl, rfl, _, _, _, _, _, _, _, _, _, _, _, _, _, _, _, _, _, _, _, _, _, _, _, _, rfl, fun e => absurd e (by simp), fun _ e => by rw [e.1] at h8; cases h8⟩
     · rintro e a W ⟨rfl, rfl, d, x19, x20, x21, x22, x23, x24, x25, x26, x27, x28, x29, x30, x31, x32, x33, x34, x35, x36, x37, x38, x39, x40, x41, rfl, hd1, hd0⟩
       have HC3 := hid HC2.out.drew; have HLN3 := hid (HLN2.out.below (Below.refl _ _).drew); have HM3 := hid (HM2.out.cs (B := B) (Cs.of_below (Below.refl w2.heap.size w2).drew))
       have HBD : Hid (Below w2.heap.size w2 w2.drew) := hid (Below.refl _ _).drew
       obtain ⟨w3, hw3⟩ : ∃ w3, w3 = w2.drew := ⟨_, rfl⟩
       have HSZ := hid (show w3.heap.size = w2.heap.size by rw [hw3]; rfl)
       rw [← hw3] at HC3 HLN3 HM3 HBD ⊢
       clear hw3 hk4 hf4 c0 c1' c2'
       cases d
       · have HND := hid (hd0 rfl)
         clear hd0 hd1
         have HX4 : Hid (X = bindE (if k = most ∧ beginsS (b :: t) = true then .error (b :: t, 3) else nameS (b :: t)) (fun nm r1 => if kd = 4 then bindE (mustU r1) fun _ r2 => bindE (versS r2) fun v r3 => namesD kd most g (k + 1) (addV (addN n1 nm) v) r3 else namesD kd most g (k + 1) (addN n1 nm) r1)) := hid (by have := HX3.out; rw [anyE_0, if_neg (show ¬ (true = false) by simp), if_neg HND.out] at this; exact this)
         clear HX3 HND
         have c0 := HC3.out.x.1 0; have c1' := HC3.out.x.1 1; have c2' := HC3.out.x.1 2; have hck := HCK.out
         by_cases hkm : k = most
         · skip
           have hev : ((k : Int) == (most : Int)) = true := by rw [hkm]; exact beq_self_eq_true _
           have HKM := hid hkm
           clear hkm
           go_wp2_with fail
           refine (cu_name _ (ahead_cu HC3.out) HBL.out HEN.out).mono ?_
           intro e w4 he
           obtain ⟨nm0, p4, l4, er4, rfl, hc4, hs4, hm4⟩ := he.any
           have HB4 : Hid (Below w3.heap.size w3 w4) := hid (hs4.below (ahead_below w3 s q2) (fun i hi => by omega) (ahead_below w3 s q2).size)
           have hfar := name_far HEN.out hm4
           have ca := hc4.x.1 1
           have hp4 := hc4.len; have hp3 := HC3.out.len
           clear hc4 hs4 he
           cases hbe : beginsS (b :: t)
           · skip
             have hpe : p4 = q2 := by rw [hfar.2 hbe] at hp4; omega
             have hgt : decide ((q2 : Int) < (p4 : Int)) = false := by simp; omega
             have hgtn : decide (q2 < p4) = false := by simp; omega
             have HYS := hid hbe
             have HCV := hid (HC3.out.below HB4.out); have HLV := hid (HLN3.out.below HB4.out); have HMV := hid (HM3.out.trans (Mv.of_below HB4.out))
             have HY : Hid (X = bindE (anyE 0 (b :: t) (nameS (b :: t))) (fun nm r1 => if kd = 4 then bindE (mustU r1) fun _ r2 => bindE (versS r2) fun v r3 => namesD kd most g (k + 1) (addV (addN n1 nm) v) r3 else namesD kd most g (k + 1) (addN n1 nm) r1)) := hid (by have := HX4.out; rw [if_neg (fun e => by have := e.2; rw [hbe] at this; cases this)] at this; rw [anyE_0]; exact this)
             have HKE : Hid (∀ m r, anyE 0 (b :: t) (nameS (b :: t)) = .ok (m, r) → k < most) := hid (fun m r h => by rw [anyE_0, nameS_nb hbe] at h; cases h)
             have HSTV : Hid (Stands 0 (b :: t)) := hid (fun _ => ⟨b, t, rfl, HBL.out, HEN.out⟩)
             clear hpe hfar hp4 hp3 hbe hm4 c0 c1' c2'
             have c1' := HCV.out.x.1 1
             go_wp2_with fail
             refine (cu_name_any _ HCV.out HSTV.out).mono ?_
             rintro e w6 ⟨m, q6, l6, er6, rfl, hc6, hs6, hm6⟩
             have HC6 := hid hc6; have HLN6 := hid (HLV.out.cs hs6); have HM6 := hid (HMV.out.cs hs6)
             have HX6 : Hid (X = anyE er6 l6 (if kd = 4 then bindE (mustU l6) fun _ r2 => bindE (versS r2) fun v r3 => namesD kd most g (k + 1) (addV (addN n1 m) v) r3 else namesD kd most g (k + 1) (addN n1 m) l6)) := hid (by have := HY.out; rw [hm6, bind_mk] at this; exact this)
             have HK6 : Hid (er6 = 0 → k < most ∧ l6.length ≤ (b :: t).length - 1) := hid (fun e => by subst e; rw [mkR_0] at hm6; refine ⟨HKE.out _ _ hm6, ?_⟩; obtain ⟨e5, hn⟩ := mk_ok (hm6.trans (mkR_0 _ _).symm) rfl; cases hB : beginsS (b :: t); (· rw [nameS_nb hB] at hn; cases hn); (· have := (name_far HEN.out (hn.trans (mkR_0 _ _).symm)).1 hB; omega))
             clear hc6 hs6 hm6
             have hcn := HLN6.out.n.1.2.2.2.2.1
             have HN1 : Hid (n1.names.length + 1 = c1.nn + 1) := hid (by omega)
             have HN2 : Hid ((c1.nn + 1) * 16 ≤ 140737488355328) := hid (by have := H12.out; have := HML.out; have := HK.out; omega)
             have HN3 : Hid (c1.nn + 1 ≤ maxLen) := hid (by have := H12.out; have := HML.out; have := HK.out; unfold maxLen; omega)
             have HN4 : Hid (B + 1 ≤ (w6.alloc (.cells #[.string ⟨m.toArray⟩] 9)).heap.size) := hid (by have := HC6.out.lt; simp; omega)
             clear hcn
             have hcb := HLN6.out.x.1; have hfb := HLN6.out.x.2.1
             cases h4 : (kd == 4)
             · skip
               have hkd : kd ≠ 4 := beq_eq_false_iff_ne.1 h4
               have HKD4 := hid hkd
               clear hkd
               go_wp2_with (at_builtin; refine wpList_app rfl _ _ 25 rfl i z 16 Tryz.underlying25 HI.out.1 HI.out.2.1 HI.out.2.2.1 HI.out.2.2.2.1 HI.out.2.2.2.2 rfl (HLN6.out.n.2.1.alloc _) (some ⟨w6.heap.size, 0, none⟩) 1 1 (c1.nn + 1) [m] rfl (Row.str1 w6 m) HN1.out HN2.out HN3.out HN4.out ?_; intro a' c' w7 hown7 hg7 hat7; have hx7 := (HLN6.out.x.keep (belowA (Below.refl _ _) (.cells #[.string ⟨m.toArray⟩] 9))).grown hg7 (fun e => (HLN6.out.an _ e).1 rfl); have HAD := hid (HLN6.out.addN (belowA (Below.refl _ _) (.cells #[.string ⟨m.toArray⟩] 9)) a' c' hown7 hg7 hat7); clear hcb hfb; have hcb := hx7.1; have hfb := hx7.2.1; clear hown7 hg7 hat7 hx7)
               have HC8 := hid (HAD.out.2.2 _ _ _ _ HC6.out)
               have hwk : wrap64 ((k : Int) + 1) = ((k + 1 : Nat) : Int) := by have := hkm0.out; have := HML.out; unfold wrap64; omega
               go_roundw
               case rel => exact ⟨_, k + 1, g, q6, l6, er6, _, _, rfl, (by first | rfl | rw [hwk] | go_num), HC8.out, HAD.out.1, HAD.out.2.1 _ _ HM6.out (Nat.le_refl _), (by have := HX6.out; rw [if_neg HKD4.out] at this; exact this), HKK.out, (by have := HK.out.1; have := hkm0.out; omega), (fun e => by have := (fun e => (HK6.out e).1) e; omega), (by have := HF.out; show most + 2 ≤ g + (k + 1) + (if n1.first = true then 1 else 0); omega), (by have := H12.out.1; simp; omega), (by have := H12.out.2; simp; omega)⟩
               case measure => exact curM_lt HC.out HC8.out (fun e => by have := (HK6.out e).2; have := HLM.out; simp at *; omega)
             · skip
               have hkd : kd = 4 := eq_of_beq h4
               have HKD4 := hid hkd
               clear hkd
               go_wp2_with (at_builtin; refine wpList_app rfl _ _ 25 rfl i z 16 Tryz.underlying25 HI.out.1 HI.out.2.1 HI.out.2.2.1 HI.out.2.2.2.1 HI.out.2.2.2.2 rfl (HLN6.out.n.2.1.alloc _) (some ⟨w6.heap.size, 0, none⟩) 1 1 (c1.nn + 1) [m] rfl (Row.str1 w6 m) HN1.out HN2.out HN3.out HN4.out ?_; intro a' c' w7 hown7 hg7 hat7; have hx7 := (HLN6.out.x.keep (belowA (Below.refl _ _) (.cells #[.string ⟨m.toArray⟩] 9))).grown hg7 (fun e => (HLN6.out.an _ e).1 rfl); have HAD := hid (HLN6.out.addN (belowA (Below.refl _ _) (.cells #[.string ⟨m.toArray⟩] 9)) a' c' hown7 hg7 hat7); clear hcb hfb; have hcb := hx7.1; have hfb := hx7.2.1; clear hown7 hg7 hat7 hx7)
               have HC8 := hid (HAD.out.2.2 _ _ _ _ HC6.out)
               have HM8 := hid (HAD.out.2.1 _ _ HM6.out (Nat.le_refl _))
               refine (cu_must_any _ HC8.out).mono ?_
               rintro e w9 ⟨u, q9, l9, er9, rfl, hc9, hs9, hm9⟩
               have HC9 := hid hc9; have HLN9 := hid (HAD.out.1.cs hs9); have HM9 := hid (HM8.out.cs hs9); have HST9 := hid (must_stands hm9)
               have hx6 := HX6.out
               rw [if_pos HKD4.out] at hx6
               have HX9 := hid (any_step hx6 hm9)
               clear hx6
               have HK9 : Hid (er9 = 0 → k < most ∧ l9.length ≤ (b :: t).length - 1) := hid (fun e => by obtain ⟨h1, h2⟩ := mk_ok hm9 e; have := HK6.out h1; have := must_len h2; omega)
               clear hc9 hs9 hm9
               have hcn := HLN9.out.n.1.2.2.2.2.2
               have HV1 : Hid (n1.vers.length + 1 = c1.vn + 1) := hid (by have : c1.vn = n1.vers.length := hcn; omega)
               have HV2 : Hid ((c1.vn + 1) * 24 ≤ 140737488355328) := hid (by have := HV1.out; have := H12.out; have := HML.out; have := HK.out; omega)
               have HV3 : Hid (c1.vn + 1 ≤ maxLen) := hid (by have := HV1.out; have := H12.out; have := HML.out; have := HK.out; unfold maxLen; omega)
               clear hcn hcb hfb
               have hc3 : w9.cell? ⟨w.heap.size, 3, none⟩ = some (.slice c1.va c1.vn c1.vc) := HLN9.out.x.1 3
               go_wp2_with fail
               refine wp_region_ordC 7 [(0, 1), (1, 0), (2, 1), (3, 2), (4, 2), (5, 2), (6, 1), (7, 2)] (fun _ => True) (fun W' => W'.cell? ⟨w.heap.size, 3, none⟩ = some (.slice c1.va c1.vn c1.vc)) (by kernel_rfl) (by kernel_rfl) (trivial) (hc3) ?_
               repeat ((first | refine ordC_skip rfl rfl ?_ | refine ordC_skip1 rfl rfl ?_ | ((first | refine ordC_q rfl rfl ?_ | refine ordC_p rfl rfl ?_); apply Exists.intro; refine ⟨fun wS hS => ?_, ?_⟩; (go_simp; try with_reducible rfl))); simp only [Act.put, List.setIfInBounds_toArray, List.set_cons_zero, List.set_cons_succ])
               refine ordC_l rfl rfl (fun K hK => ?_)
               go_simp
               refine (cu_told_any _ HC9.out.drew HST9.out).mono ?_
               rintro e w10 ⟨⟨vn, vk⟩, q10, l10, er10, rfl, hc10, hs10, hm10⟩
               have HC10 := hid hc10; have HLN10 := hid ((HLN9.out.below (Below.refl _ _).drew).cs hs10); have HM10 := hid ((HM9.out.trans (Mv.of_below (Below.refl _ _).drew)).cs hs10)
               have HX10 := hid (any_step HX9.out hm10)
               have HK10 : Hid (er10 = 0 → k < most ∧ l10.length ≤ (b :: t).length - 1) := hid (fun e => by obtain ⟨h1, h2⟩ := mk_ok hm10 e; have := HK9.out h1; have := vers_len h2; omega)
               refine hK _ _ ⟨trivial, HLN10.out.x.1 3⟩ ?_
               have HV4 : Hid (B + 1 ≤ (w10.alloc (.cells #[.string ⟨vn.toArray⟩, .int .i64 vk] 67)).heap.size) := hid (by have := HC10.out.lt; simp; omega)
               clear hK K hc10 hs10 hm10 hc3
               refine ordC_l rfl rfl (fun K hK => ?_)
               go_simp
               refine hK _ _ ⟨trivial, (HLN10.out.below (belowA (Below.refl _ _) _)).x.1 3⟩ ?_
               clear hK K
               refine ordC_l rfl rfl (fun K hK => ?_)
               refine wp_app _ _ 26 rfl i2 z2 24 Tryz.underlying26 HI2.out.1 HI2.out.2.1 HI2.out.2.2.1 HI2.out.2.2.2.1 HI2.out.2.2.2.2 rfl (HLN10.out.n.2.2.alloc _) (some ⟨w10.heap.size, 0, none⟩) 1 1 (c1.vn + 1) [⟨vn, vk⟩] rfl (Row.toN rfl ⟨vn, vk⟩) HV1.out HV2.out HV3.out HV4.out ?_
               intro a2 c2' w11 hown hg hat
               have hx11 := (HLN10.out.x.keep (belowA (Below.refl _ _) (.cells #[.string ⟨vn.toArray⟩, .int .i64 vk] 67))).grown hg (fun e => (HLN10.out.av _ e).1 rfl)
               have HAV := hid (HLN10.out.addV (v := ⟨vn, vk⟩) (belowA (Below.refl _ _) (.cells #[.string ⟨vn.toArray⟩, .int .i64 vk] 67)) a2 c2' hown hg hat)
               refine hK _ _ ⟨trivial, hx11.1 3⟩ ?_
               have hc3 := hx11.1 3; have hf3 := hx11.2.1 3
               clear hK K hown hg hat hx11
               repeat ((first | refine ordC_skip rfl rfl ?_ | refine ordC_skip1 rfl rfl ?_ | ((first | refine ordC_q rfl rfl ?_ | refine ordC_p rfl rfl ?_); apply Exists.intro; refine ⟨fun wS hS => ?_, ?_⟩; (go_simp; try with_reducible rfl))); simp only [Act.put, List.setIfInBounds_toArray, List.set_cons_zero, List.set_cons_succ])
               refine ordC_m rfl rfl rfl (fun K hK => ?_)
               go_simp
               refine hK _ _ trivial ?_
               clear hK K
               refine ordC_nil ?_
               have HC12 := hid (HAV.out.2.2 _ _ _ _ HC10.out)
               go_wp2_with fail
               have hwk : wrap64 ((k : Int) + 1) = ((k + 1 : Nat) : Int) := by have := hkm0.out; have := HML.out; unfold wrap64; omega
               go_roundw
               case rel => exact ⟨_, k + 1, g, q10, l10, er10, _, _, rfl, (by first | rfl | rw [hwk] | go_num), HC12.out, HAV.out.1, HAV.out.2.1 _ _ HM10.out (Nat.le_refl _), HX10.out, HKK.out, (by have := HK.out.1; have := hkm0.out; omega), (fun e => by have := (fun e => (HK10.out e).1) e; omega), (by have := HF.out; show most + 2 ≤ g + (k + 1) + (if n1.first = true then 1 else 0); omega), (by have := H12.out.1; simp; omega), (by have := H12.out.2; simp; omega)⟩
               case measure => exact curM_lt HC.out HC12.out (fun e => by have := (HK10.out e).2; have := HLM.out; simp at *; omega)
           · skip
             have hpe : q2 < p4 := by have := hfar.1 hbe; omega
             have hgt : decide ((q2 : Int) < (p4 : Int)) = true := by simp; omega
             have hgtn : decide (q2 < p4) = true := by simp; omega
             have HY : Hid (X = bindE (anyE 3 (b :: t) (nameS (b :: t))) (fun nm r1 => if kd = 4 then bindE (mustU r1) fun _ r2 => bindE (versS r2) fun v r3 => namesD kd most g (k + 1) (addV (addN n1 nm) v) r3 else namesD kd most g (k + 1) (addN n1 nm) r1)) := hid (by have := HX4.out; rw [if_pos ⟨HKM.out, hbe⟩] at this; rw [anyE_n _ (by decide)]; exact this)
             have HKE : Hid (∀ m r, anyE 3 (b :: t) (nameS (b :: t)) = .ok (m, r) → k < most) := hid (fun m r h => by rw [anyE_n _ (by decide)] at h; cases h)
             have HSTV : Hid (Stands 3 (b :: t)) := hid (fun e => absurd e (by decide))
             clear hpe hfar hp4 hp3 hbe hm4 c0 c1' c2'
             go_wp2_with fail
             refine (cu_fails _ (HC3.out.below HB4.out) 0 (Nat.zero_le _) q2 rfl 3).mono ?_
             rintro e w5 ⟨rfl, hc5, hs5⟩
             have HCV : Hid (CuC w5 B s q2 (b :: t) 3) := hid hc5; have HLV := hid ((HLN3.out.below HB4.out).cs hs5); have HMV := hid ((HM3.out.trans (Mv.of_below HB4.out)).cs hs5)
             clear hc5 hs5 ca
             go_wp2_with fail
             refine (cu_name_any _ HCV.out HSTV.out).mono ?_
             rintro e w6 ⟨m, q6, l6, er6, rfl, hc6, hs6, hm6⟩
             have HC6 := hid hc6; have HLN6 := hid (HLV.out.cs hs6); have HM6 := hid (HMV.out.cs hs6)
             have HX6 : Hid (X = anyE er6 l6 (if kd = 4 then bindE (mustU l6) fun _ r2 => bindE (versS r2) fun v r3 => namesD kd most g (k + 1) (addV (addN n1 m) v) r3 else namesD kd most g (k + 1) (addN n1 m) l6)) := hid (by have := HY.out; rw [hm6, bind_mk] at this; exact this)
             have HK6 : Hid (er6 = 0 → k < most ∧ l6.length ≤ (b :: t).length - 1) := hid (fun e => by subst e; rw [mkR_0] at hm6; refine ⟨HKE.out _ _ hm6, ?_⟩; obtain ⟨e5, hn⟩ := mk_ok (hm6.trans (mkR_0 _ _).symm) rfl; cases hB : beginsS (b :: t); (· rw [nameS_nb hB] at hn; cases hn); (· have := (name_far HEN.out (hn.trans (mkR_0 _ _).symm)).1 hB; omega))
             clear hc6 hs6 hm6
             have hcn := HLN6.out.n.1.2.2.2.2.1
             have HN1 : Hid (n1.names.length + 1 = c1.nn + 1) := hid (by omega)
             have HN2 : Hid ((c1.nn + 1) * 16 ≤ 140737488355328) := hid (by have := H12.out; have := HML.out; have := HK.out; omega)
             have HN3 : Hid (c1.nn + 1 ≤ maxLen) := hid (by have := H12.out; have := HML.out; have := HK.out; unfold maxLen; omega)
             have HN4 : Hid (B + 1 ≤ (w6.alloc (.cells #[.string ⟨m.toArray⟩] 9)).heap.size) := hid (by have := HC6.out.lt; simp; omega)
             clear hcn
             have hcb := HLN6.out.x.1; have hfb := HLN6.out.x.2.1
             cases h4 : (kd == 4)
             · skip
               have hkd : kd ≠ 4 := beq_eq_false_iff_ne.1 h4
               have HKD4 := hid hkd
               clear hkd
               go_wp2_with (at_builtin; refine wpList_app rfl _ _ 25 rfl i z 16 Tryz.underlying25 HI.out.1 HI.out.2.1 HI.out.2.2.1 HI.out.2.2.2.1 HI.out.2.2.2.2 rfl (HLN6.out.n.2.1.alloc _) (some ⟨w6.heap.size, 0, none⟩) 1 1 (c1.nn + 1) [m] rfl (Row.str1 w6 m) HN1.out HN2.out HN3.out HN4.out ?_; intro a' c' w7 hown7 hg7 hat7; have hx7 := (HLN6.out.x.keep (belowA (Below.refl _ _) (.cells #[.string ⟨m.toArray⟩] 9))).grown hg7 (fun e => (HLN6.out.an _ e).1 rfl); have HAD := hid (HLN6.out.addN (belowA (Below.refl _ _) (.cells #[.string ⟨m.toArray⟩] 9)) a' c' hown7 hg7 hat7); clear hcb hfb; have hcb := hx7.1; have hfb := hx7.2.1; clear hown7 hg7 hat7 hx7)
               have HC8 := hid (HAD.out.2.2 _ _ _ _ HC6.out)
               have hwk : wrap64 ((k : Int) + 1) = ((k + 1 : Nat) : Int) := by have := hkm0.out; have := HML.out; unfold wrap64; omega
               go_roundw
               case rel => exact ⟨_, k + 1, g, q6, l6, er6, _, _, rfl, (by first | rfl | rw [hwk] | go_num), HC8.out, HAD.out.1, HAD.out.2.1 _ _ HM6.out (Nat.le_refl _), (by have := HX6.out; rw [if_neg HKD4.out] at this; exact this), HKK.out, (by have := HK.out.1; have := hkm0.out; omega), (fun e => by have := (fun e => (HK6.out e).1) e; omega), (by have := HF.out; show most + 2 ≤ g + (k + 1) + (if n1.first = true then 1 else 0); omega), (by have := H12.out.1; simp; omega), (by have := H12.out.2; simp; omega)⟩
               case measure => exact curM_lt HC.out HC8.out (fun e => by have := (HK6.out e).2; have := HLM.out; simp at *; omega)
             · skip
               have hkd : kd = 4 := eq_of_beq h4
               have HKD4 := hid hkd
               clear hkd
               go_wp2_with (at_builtin; refine wpList_app rfl _ _ 25 rfl i z 16 Tryz.underlying25 HI.out.1 HI.out.2.1 HI.out.2.2.1 HI.out.2.2.2.1 HI.out.2.2.2.2 rfl (HLN6.out.n.2.1.alloc _) (some ⟨w6.heap.size, 0, none⟩) 1 1 (c1.nn + 1) [m] rfl (Row.str1 w6 m) HN1.out HN2.out HN3.out HN4.out ?_; intro a' c' w7 hown7 hg7 hat7; have hx7 := (HLN6.out.x.keep (belowA (Below.refl _ _) (.cells #[.string ⟨m.toArray⟩] 9))).grown hg7 (fun e => (HLN6.out.an _ e).1 rfl); have HAD := hid (HLN6.out.addN (belowA (Below.refl _ _) (.cells #[.string ⟨m.toArray⟩] 9)) a' c' hown7 hg7 hat7); clear hcb hfb; have hcb := hx7.1; have hfb := hx7.2.1; clear hown7 hg7 hat7 hx7)
               have HC8 := hid (HAD.out.2.2 _ _ _ _ HC6.out)
               have HM8 := hid (HAD.out.2.1 _ _ HM6.out (Nat.le_refl _))
               refine (cu_must_any _ HC8.out).mono ?_
               rintro e w9 ⟨u, q9, l9, er9, rfl, hc9, hs9, hm9⟩
               have HC9 := hid hc9; have HLN9 := hid (HAD.out.1.cs hs9); have HM9 := hid (HM8.out.cs hs9); have HST9 := hid (must_stands hm9)
               have hx6 := HX6.out
               rw [if_pos HKD4.out] at hx6
               have HX9 := hid (any_step hx6 hm9)
               clear hx6
               have HK9 : Hid (er9 = 0 → k < most ∧ l9.length ≤ (b :: t).length - 1) := hid (fun e => by obtain ⟨h1, h2⟩ := mk_ok hm9 e; have := HK6.out h1; have := must_len h2; omega)
               clear hc9 hs9 hm9
               have hcn := HLN9.out.n.1.2.2.2.2.2
               have HV1 : Hid (n1.vers.length + 1 = c1.vn + 1) := hid (by have : c1.vn = n1.vers.length := hcn; omega)
               have HV2 : Hid ((c1.vn + 1) * 24 ≤ 140737488355328) := hid (by have := HV1.out; have := H12.out; have := HML.out; have := HK.out; omega)
               have HV3 : Hid (c1.vn + 1 ≤ maxLen) := hid (by have := HV1.out; have := H12.out; have := HML.out; have := HK.out; unfold maxLen; omega)
               clear hcn hcb hfb
               have hc3 : w9.cell? ⟨w.heap.size, 3, none⟩ = some (.slice c1.va c1.vn c1.vc) := HLN9.out.x.1 3
               go_wp2_with fail
               refine wp_region_ordC 7 [(0, 1), (1, 0), (2, 1), (3, 2), (4, 2), (5, 2), (6, 1), (7, 2)] (fun _ => True) (fun W' => W'.cell? ⟨w.heap.size, 3, none⟩ = some (.slice c1.va c1.vn c1.vc)) (by kernel_rfl) (by kernel_rfl) (trivial) (hc3) ?_
               repeat ((first | refine ordC_skip rfl rfl ?_ | refine ordC_skip1 rfl rfl ?_ | ((first | refine ordC_q rfl rfl ?_ | refine ordC_p rfl rfl ?_); apply Exists.intro; refine ⟨fun wS hS => ?_, ?_⟩; (go_simp; try with_reducible rfl))); simp only [Act.put, List.setIfInBounds_toArray, List.set_cons_zero, List.set_cons_succ])
               refine ordC_l rfl rfl (fun K hK => ?_)
               go_simp
               refine (cu_told_any _ HC9.out.drew HST9.out).mono ?_
               rintro e w10 ⟨⟨vn, vk⟩, q10, l10, er10, rfl, hc10, hs10, hm10⟩
               have HC10 := hid hc10; have HLN10 := hid ((HLN9.out.below (Below.refl _ _).drew).cs hs10); have HM10 := hid ((HM9.out.trans (Mv.of_below (Below.refl _ _).drew)).cs hs10)
               have HX10 := hid (any_step HX9.out hm10)
               have HK10 : Hid (er10 = 0 → k < most ∧ l10.length ≤ (b :: t).length - 1) := hid (fun e => by obtain ⟨h1, h2⟩ := mk_ok hm10 e; have := HK9.out h1; have := vers_len h2; omega)
               refine hK _ _ ⟨trivial, HLN10.out.x.1 3⟩ ?_
               have HV4 : Hid (B + 1 ≤ (w10.alloc (.cells #[.string ⟨vn.toArray⟩, .int .i64 vk] 67)).heap.size) := hid (by have := HC10.out.lt; simp; omega)
               clear hK K hc10 hs10 hm10 hc3
               refine ordC_l rfl rfl (fun K hK => ?_)
               go_simp
               refine hK _ _ ⟨trivial, (HLN10.out.below (belowA (Below.refl _ _) _)).x.1 3⟩ ?_
               clear hK K
               refine ordC_l rfl rfl (fun K hK => ?_)
               refine wp_app _ _ 26 rfl i2 z2 24 Tryz.underlying26 HI2.out.1 HI2.out.2.1 HI2.out.2.2.1 HI2.out.2.2.2.1 HI2.out.2.2.2.2 rfl (HLN10.out.n.2.2.alloc _) (some ⟨w10.heap.size, 0, none⟩) 1 1 (c1.vn + 1) [⟨vn, vk⟩] rfl (Row.toN rfl ⟨vn, vk⟩) HV1.out HV2.out HV3.out HV4.out ?_
               intro a2 c2' w11 hown hg hat
               have hx11 := (HLN10.out.x.keep (belowA (Below.refl _ _) (.cells #[.string ⟨vn.toArray⟩, .int .i64 vk] 67))).grown hg (fun e => (HLN10.out.av _ e).1 rfl)
               have HAV := hid (HLN10.out.addV (v := ⟨vn, vk⟩) (belowA (Below.refl _ _) (.cells #[.string ⟨vn.toArray⟩, .int .i64 vk] 67)) a2 c2' hown hg hat)
               refine hK _ _ ⟨trivial, hx11.1 3⟩ ?_
               have hc3 := hx11.1 3; have hf3 := hx11.2.1 3
               clear hK K hown hg hat hx11
               repeat ((first | refine ordC_skip rfl rfl ?_ | refine ordC_skip1 rfl rfl ?_ | ((first | refine ordC_q rfl rfl ?_ | refine ordC_p rfl rfl ?_); apply Exists.intro; refine ⟨fun wS hS => ?_, ?_⟩; (go_simp; try with_reducible rfl))); simp only [Act.put, List.setIfInBounds_toArray, List.set_cons_zero, List.set_cons_succ])
               refine ordC_m rfl rfl rfl (fun K hK => ?_)
               go_simp
               refine hK _ _ trivial ?_
               clear hK K
               refine ordC_nil ?_
               have HC12 := hid (HAV.out.2.2 _ _ _ _ HC10.out)
               go_wp2_with fail
               have hwk : wrap64 ((k : Int) + 1) = ((k + 1 : Nat) : Int) := by have := hkm0.out; have := HML.out; unfold wrap64; omega
               go_roundw
               case rel => exact ⟨_, k + 1, g, q10, l10, er10, _, _, rfl, (by first | rfl | rw [hwk] | go_num), HC12.out, HAV.out.1, HAV.out.2.1 _ _ HM10.out (Nat.le_refl _), HX10.out, HKK.out, (by have := HK.out.1; have := hkm0.out; omega), (fun e => by have := (fun e => (HK10.out e).1) e; omega), (by have := HF.out; show most + 2 ≤ g + (k + 1) + (if n1.first = true then 1 else 0); omega), (by have := H12.out.1; simp; omega), (by have := H12.out.2; simp; omega)⟩
               case measure => exact curM_lt HC.out HC12.out (fun e => by have := (HK10.out e).2; have := HLM.out; simp at *; omega)
         · skip
           have hev : ((k : Int) == (most : Int)) = false := beq_eq_false_iff_ne.2 (by omega)
           have HY : Hid (X = bindE (anyE 0 (b :: t) (nameS (b :: t))) (fun nm r1 => if kd = 4 then bindE (mustU r1) fun _ r2 => bindE (versS r2) fun v r3 => namesD kd most g (k + 1) (addV (addN n1 nm) v) r3 else namesD kd most g (k + 1) (addN n1 nm) r1)) := hid (by have := HX4.out; rw [if_neg (fun e => hkm e.1)] at this; rw [anyE_0]; exact this)
           have HKE : Hid (∀ m r, anyE 0 (b :: t) (nameS (b :: t)) = .ok (m, r) → k < most) := hid (fun m r h => by have := hkm0.out; omega)
           have HSTV : Hid (Stands 0 (b :: t)) := hid (fun _ => ⟨b, t, rfl, HBL.out, HEN.out⟩)
           have HB4 := hid (ahead_below w3 s q2)
           have HCV := hid (HC3.out.below HB4.out); have HLV := hid (HLN3.out.below HB4.out); have HMV := hid (HM3.out.trans (Mv.of_below HB4.out))
           clear hkm
           go_wp2_with fail
           refine (cu_name_any _ HCV.out HSTV.out).mono ?_
           rintro e w6 ⟨m, q6, l6, er6, rfl, hc6, hs6, hm6⟩
           have HC6 := hid hc6; have HLN6 := hid (HLV.out.cs hs6); have HM6 := hid (HMV.out.cs hs6)
           have HX6 : Hid (X = anyE er6 l6 (if kd = 4 then bindE (mustU l6) fun _ r2 => bindE (versS r2) fun v r3 => namesD kd most g (k + 1) (addV (addN n1 m) v) r3 else namesD kd most g (k + 1) (addN n1 m) l6)) := hid (by have := HY.out; rw [hm6, bind_mk] at this; exact this)
           have HK6 : Hid (er6 = 0 → k < most ∧ l6.length ≤ (b :: t).length - 1) := hid (fun e => by subst e; rw [mkR_0] at hm6; refine ⟨HKE.out _ _ hm6, ?_⟩; obtain ⟨e5, hn⟩ := mk_ok (hm6.trans (mkR_0 _ _).symm) rfl; cases hB : beginsS (b :: t); (· rw [nameS_nb hB] at hn; cases hn); (· have := (name_far HEN.out (hn.trans (mkR_0 _ _).symm)).1 hB; omega))
           clear hc6 hs6 hm6
           have hcn := HLN6.out.n.1.2.2.2.2.1
           have HN1 : Hid (n1.names.length + 1 = c1.nn + 1) := hid (by omega)
           have HN2 : Hid ((c1.nn + 1) * 16 ≤ 140737488355328) := hid (by have := H12.out; have := HML.out; have := HK.out; omega)
           have HN3 : Hid (c1.nn + 1 ≤ maxLen) := hid (by have := H12.out; have := HML.out; have := HK.out; unfold maxLen; omega)
           have HN4 : Hid (B + 1 ≤ (w6.alloc (.cells #[.string ⟨m.toArray⟩] 9)).heap.size) := hid (by have := HC6.out.lt; simp; omega)
           clear hcn
           have hcb := HLN6.out.x.1; have hfb := HLN6.out.x.2.1
           cases h4 : (kd == 4)
           · skip
             have hkd : kd ≠ 4 := beq_eq_false_iff_ne.1 h4
             have HKD4 := hid hkd
             clear hkd
             go_wp2_with (at_builtin; refine wpList_app rfl _ _ 25 rfl i z 16 Tryz.underlying25 HI.out.1 HI.out.2.1 HI.out.2.2.1 HI.out.2.2.2.1 HI.out.2.2.2.2 rfl (HLN6.out.n.2.1.alloc _) (some ⟨w6.heap.size, 0, none⟩) 1 1 (c1.nn + 1) [m] rfl (Row.str1 w6 m) HN1.out HN2.out HN3.out HN4.out ?_; intro a' c' w7 hown7 hg7 hat7; have hx7 := (HLN6.out.x.keep (belowA (Below.refl _ _) (.cells #[.string ⟨m.toArray⟩] 9))).grown hg7 (fun e => (HLN6.out.an _ e).1 rfl); have HAD := hid (HLN6.out.addN (belowA (Below.refl _ _) (.cells #[.string ⟨m.toArray⟩] 9)) a' c' hown7 hg7 hat7); clear hcb hfb; have hcb := hx7.1; have hfb := hx7.2.1; clear hown7 hg7 hat7 hx7)
             have HC8 := hid (HAD.out.2.2 _ _ _ _ HC6.out)
             have hwk : wrap64 ((k : Int) + 1) = ((k + 1 : Nat) : Int) := by have := hkm0.out; have := HML.out; unfold wrap64; omega
             go_roundw
             case rel => exact ⟨_, k + 1, g, q6, l6, er6, _, _, rfl, (by first | rfl | rw [hwk] | go_num), HC8.out, HAD.out.1, HAD.out.2.1 _ _ HM6.out (Nat.le_refl _), (by have := HX6.out; rw [if_neg HKD4.out] at this; exact this), HKK.out, (by have := HK.out.1; have := hkm0.out; omega), (fun e => by have := (fun e => (HK6.out e).1) e; omega), (by have := HF.out; show most + 2 ≤ g + (k + 1) + (if n1.first = true then 1 else 0); omega), (by have := H12.out.1; simp; omega), (by have := H12.out.2; simp; omega)⟩
             case measure => exact curM_lt HC.out HC8.out (fun e => by have := (HK6.out e).2; have := HLM.out; simp at *; omega)
           · skip
             have hkd : kd = 4 := eq_of_beq h4
             have HKD4 := hid hkd
             clear hkd
             go_wp2_with (at_builtin; refine wpList_app rfl _ _ 25 rfl i z 16 Tryz.underlying25 HI.out.1 HI.out.2.1 HI.out.2.2.1 HI.out.2.2.2.1 HI.out.2.2.2.2 rfl (HLN6.out.n.2.1.alloc _) (some ⟨w6.heap.size, 0, none⟩) 1 1 (c1.nn + 1) [m] rfl (Row.str1 w6 m) HN1.out HN2.out HN3.out HN4.out ?_; intro a' c' w7 hown7 hg7 hat7; have hx7 := (HLN6.out.x.keep (belowA (Below.refl _ _) (.cells #[.string ⟨m.toArray⟩] 9))).grown hg7 (fun e => (HLN6.out.an _ e).1 rfl); have HAD := hid (HLN6.out.addN (belowA (Below.refl _ _) (.cells #[.string ⟨m.toArray⟩] 9)) a' c' hown7 hg7 hat7); clear hcb hfb; have hcb := hx7.1; have hfb := hx7.2.1; clear hown7 hg7 hat7 hx7)
             have HC8 := hid (HAD.out.2.2 _ _ _ _ HC6.out)
             have HM8 := hid (HAD.out.2.1 _ _ HM6.out (Nat.le_refl _))
             refine (cu_must_any _ HC8.out).mono ?_
             rintro e w9 ⟨u, q9, l9, er9, rfl, hc9, hs9, hm9⟩
             have HC9 := hid hc9; have HLN9 := hid (HAD.out.1.cs hs9); have HM9 := hid (HM8.out.cs hs9); have HST9 := hid (must_stands hm9)
             have hx6 := HX6.out
             rw [if_pos HKD4.out] at hx6
             have HX9 := hid (any_step hx6 hm9)
             clear hx6
             have HK9 : Hid (er9 = 0 → k < most ∧ l9.length ≤ (b :: t).length - 1) := hid (fun e => by obtain ⟨h1, h2⟩ := mk_ok hm9 e; have := HK6.out h1; have := must_len h2; omega)
             clear hc9 hs9 hm9
             have hcn := HLN9.out.n.1.2.2.2.2.2
             have HV1 : Hid (n1.vers.length + 1 = c1.vn + 1) := hid (by have : c1.vn = n1.vers.length := hcn; omega)
             have HV2 : Hid ((c1.vn + 1) * 24 ≤ 140737488355328) := hid (by have := HV1.out; have := H12.out; have := HML.out; have := HK.out; omega)
             have HV3 : Hid (c1.vn + 1 ≤ maxLen) := hid (by have := HV1.out; have := H12.out; have := HML.out; have := HK.out; unfold maxLen; omega)
             clear hcn hcb hfb
             have hc3 : w9.cell? ⟨w.heap.size, 3, none⟩ = some (.slice c1.va c1.vn c1.vc) := HLN9.out.x.1 3
             go_wp2_with fail
             refine wp_region_ordC 7 [(0, 1), (1, 0), (2, 1), (3, 2), (4, 2), (5, 2), (6, 1), (7, 2)] (fun _ => True) (fun W' => W'.cell? ⟨w.heap.size, 3, none⟩ = some (.slice c1.va c1.vn c1.vc)) (by kernel_rfl) (by kernel_rfl) (trivial) (hc3) ?_
             repeat ((first | refine ordC_skip rfl rfl ?_ | refine ordC_skip1 rfl rfl ?_ | ((first | refine ordC_q rfl rfl ?_ | refine ordC_p rfl rfl ?_); apply Exists.intro; refine ⟨fun wS hS => ?_, ?_⟩; (go_simp; try with_reducible rfl))); simp only [Act.put, List.setIfInBounds_toArray, List.set_cons_zero, List.set_cons_succ])
             refine ordC_l rfl rfl (fun K hK => ?_)
             go_simp
             refine (cu_told_any _ HC9.out.drew HST9.out).mono ?_
             rintro e w10 ⟨⟨vn, vk⟩, q10, l10, er10, rfl, hc10, hs10, hm10⟩
             have HC10 := hid hc10; have HLN10 := hid ((HLN9.out.below (Below.refl _ _).drew).cs hs10); have HM10 := hid ((HM9.out.trans (Mv.of_below (Below.refl _ _).drew)).cs hs10)
             have HX10 := hid (any_step HX9.out hm10)
             have HK10 : Hid (er10 = 0 → k < most ∧ l10.length ≤ (b :: t).length - 1) := hid (fun e => by obtain ⟨h1, h2⟩ := mk_ok hm10 e; have := HK9.out h1; have := vers_len h2; omega)
             refine hK _ _ ⟨trivial, HLN10.out.x.1 3⟩ ?_
             have HV4 : Hid (B + 1 ≤ (w10.alloc (.cells #[.string ⟨vn.toArray⟩, .int .i64 vk] 67)).heap.size) := hid (by have := HC10.out.lt; simp; omega)
             clear hK K hc10 hs10 hm10 hc3
             refine ordC_l rfl rfl (fun K hK => ?_)
             go_simp
             refine hK _ _ ⟨trivial, (HLN10.out.below (belowA (Below.refl _ _) _)).x.1 3⟩ ?_
             clear hK K
             refine ordC_l rfl rfl (fun K hK => ?_)
             refine wp_app _ _ 26 rfl i2 z2 24 Tryz.underlying26 HI2.out.1 HI2.out.2.1 HI2.out.2.2.1 HI2.out.2.2.2.1 HI2.out.2.2.2.2 rfl (HLN10.out.n.2.2.alloc _) (some ⟨w10.heap.size, 0, none⟩) 1 1 (c1.vn + 1) [⟨vn, vk⟩] rfl (Row.toN rfl ⟨vn, vk⟩) HV1.out HV2.out HV3.out HV4.out ?_
             intro a2 c2' w11 hown hg hat
             have hx11 := (HLN10.out.x.keep (belowA (Below.refl _ _) (.cells #[.string ⟨vn.toArray⟩, .int .i64 vk] 67))).grown hg (fun e => (HLN10.out.av _ e).1 rfl)
             have HAV := hid (HLN10.out.addV (v := ⟨vn, vk⟩) (belowA (Below.refl _ _) (.cells #[.string ⟨vn.toArray⟩, .int .i64 vk] 67)) a2 c2' hown hg hat)
             refine hK _ _ ⟨trivial, hx11.1 3⟩ ?_
             have hc3 := hx11.1 3; have hf3 := hx11.2.1 3
             clear hK K hown hg hat hx11
             repeat ((first | refine ordC_skip rfl rfl ?_ | refine ordC_skip1 rfl rfl ?_ | ((first | refine ordC_q rfl rfl ?_ | refine ordC_p rfl rfl ?_); apply Exists.intro; refine ⟨fun wS hS => ?_, ?_⟩; (go_simp; try with_reducible rfl))); simp only [Act.put, List.setIfInBounds_toArray, List.set_cons_zero, List.set_cons_succ])
             refine ordC_m rfl rfl rfl (fun K hK => ?_)
             go_simp
             refine hK _ _ trivial ?_
             clear hK K
             refine ordC_nil ?_
             have HC12 := hid (HAV.out.2.2 _ _ _ _ HC10.out)
             go_wp2_with fail
             have hwk : wrap64 ((k : Int) + 1) = ((k + 1 : Nat) : Int) := by have := hkm0.out; have := HML.out; unfold wrap64; omega
             go_roundw
             case rel => exact ⟨_, k + 1, g, q10, l10, er10, _, _, rfl, (by first | rfl | rw [hwk] | go_num), HC12.out, HAV.out.1, HAV.out.2.1 _ _ HM10.out (Nat.le_refl _), HX10.out, HKK.out, (by have := HK.out.1; have := hkm0.out; omega), (fun e => by have := (fun e => (HK10.out e).1) e; omega), (by have := HF.out; show most + 2 ≤ g + (k + 1) + (if n1.first = true then 1 else 0); omega), (by have := H12.out.1; simp; omega), (by have := H12.out.2; simp; omega)⟩
             case measure => exact curM_lt HC.out HC12.out (fun e => by have := (HK10.out e).2; have := HLM.out; simp at *; omega)
       · have HD := hid (hd1 rfl)
         clear hd0 hd1
         obtain ⟨q3, hq3⟩ : ∃ q3, q3 = q2 + 1 := ⟨_, rfl⟩
         have hqi : (q2 : Int) + 1 = (q3 : Int) := by omega
         have hgo := HC3.out.go 1 (by simp) q3 hq3
         have HGO := hid hgo; have HQ3 := hid hq3
         have HLG := hid ((HLN3.out.cs hgo.2).setFirst true)
         have HMG := hid (((HM3.out.cs hgo.2).set (Nat.le_refl _) 4 (.bool true)).as (c' := { c1 with first := true }) rfl rfl)
         have c0 := HC3.out.x.1 0; have c1' := HC3.out.x.1 1; have z1 := HC3.out.x.2.1 1; have hcb := HLN3.out.x.1; have hfb := HLN3.out.x.2.1
         clear hgo hq3
         go_wp2_with fail
         have HCG := hid (HGO.out.1.oth w.heap.size 4 (.bool true) (by have := HBB.out; omega))
         go_roundw
         case rel => exact ⟨_, 0, g, q3, t, 0, _, _, rfl, by first | rfl | go_num, HCG.out, HLG.out, HMG.out, (by have := HX3.out; rw [anyE_0, if_neg (show ¬ (true = false) by simp), if_pos HD.out] at this; rw [anyE_0]; exact this), HKK.out, Nat.zero_le _, fun _ => Nat.zero_le _, (by have := HF.out; rw [HD.out.2.2.1, HD.out.2.1] at this; simp at this; simp; omega), (by have := H12.out.1; rw [HD.out.2.1] at this; exact this), (by have := H12.out.2; rw [HD.out.2.1] at this; exact this)⟩
         case measure => exact curM_lt HC.out HCG.out (fun _ => by have := HLM.out; simp at this ⊢; omega)
end Yd
