import Derived.Test.YthkpjdgmpjhhmaaGreatDoorTellA
import Derived.Test.YthkpjdgmpjhhmaaGreatDoorProg
import Derived.Test.YthkpjdgmpjhhmaaGreatDoorLineX
import Derived.Test.YthkpjdgmpjhhmaaGreatDoorLinesL
import Derived.Test.YthkpjdgmpjhhmaaGreatDoorGround
import Derived.Test.YthkpjdgmpjhhmaaGreatDoorTellB
set_option maxRecDepth 200000
set_option maxHeartbeats 8000000
namespace Yd
open Go Go.RowKit Go.Proofs
attribute [local go_sem] Oper.semAt_some

theorem r_told14 (h : HC) (v : Ver) (tn : List Bs) (w : World) (hr : Row w 1 encStr h.t.a h.t.n h.t.c tn) (hv : v.k = 0 ∨ (0 ≤ v.t ∧ v.t < h.t.n)) :
   Calls Tryz.prog 90 #[valH h, .agg #[.int .i64 v.t, .int .i64 v.k]] w (Ret (valTo (toldS tn v)) w) := by
 by_cases hk : v.k = 0
 · have hq : toldS tn v = ⟨[], 0⟩ := by unfold toldS; rw [if_pos hk]
   rw [hq]
   obtain ⟨vt, vk⟩ := v
   simp only at hk
   subst hk
   clear hq hv hr
   go_enter Tryz.func90, Tryz.ntmps90
   go_wp2_with fail
   refine bodyPost_ret (v := valTo ⟨[], 0⟩) (by simp [results, Tryz.results90, go_sem]) rfl ⟨rfl, (((Below.refl _ _).alloc (Nat.le_refl _) _).alloc (by simp) _).alloc (by simp; omega) _⟩
 · have hv' := hv.resolve_left hk
   obtain ⟨tt, htt⟩ : ∃ tt : Nat, v.t = tt := ⟨v.t.toNat, by omega⟩
   obtain ⟨s, b, o, hx, hab, hc⟩ := hr.at_ (i := tt) (by omega)
   have hq : toldS tn v = ⟨s, v.k⟩ := by unfold toldS; rw [if_neg hk, htt, nameOf_at hx]
   rw [hq]
   have hc0 := hc 0 _ rfl
   simp only [Nat.mul_one, Nat.add_zero] at hc0
   have hle := hr.le
   clear hq hc hv hx hr
   obtain ⟨vt, vk⟩ := v
   simp only at htt hk hv'
   subst htt
   have hlt : (tt : Int) < h.t.n := hv'.2
   have hkb : (vk == 0) = false := beq_eq_false_iff_ne.2 hk
   clear hv' hk
   have hb := cell_lt hc0
   simp only at hb
   have HAB := hid hab; clear hab
   go_enter Tryz.func90, Tryz.ntmps90
   go_wp2_with fail
   have hcs : (((w.alloc (.cells (cellsH h) 28)).alloc (.cells #[.int .i64 tt, .int .i64 vk] 46)).alloc (.cells #[.string ByteArray.empty, .int .i64 0] 98)).cell? ⟨b, o + tt, none⟩ = some (.string ⟨s.toArray⟩) :=
     ((((Below.refl w.heap.size w).alloc (Nat.le_refl _) _).alloc (by simp) _).alloc (by simp; omega) _).cell (p := ⟨b, o + tt, none⟩) hb ▸ hc0
   refine wp_region_ordC 9 [(0, 0), (1, 0), (2, 0), (3, 0), (4, 0), (5, 0), (6, 0), (7, 0), (8, 0), (9, 2)] (fun _ => True) (fun W' => W'.cell? ⟨w.heap.size, 0, none⟩ = some (.slice (some ⟨b, o, none⟩) h.t.n h.t.c) ∧ W'.cell? ⟨w.heap.size + 1, 0, none⟩ = some (.int .i64 tt) ∧ W'.cell? ⟨w.heap.size + 1, 1, none⟩ = some (.int .i64 vk) ∧ W'.cell? ⟨b, o + tt, none⟩ = some (.string ⟨s.toArray⟩)) (by kernel_rfl) (by kernel_rfl) (trivial) (⟨((((Bx.new1 rfl).alloc _).alloc _).1 0).trans (by rw [← HAB.out]; rfl), ((Bx.new1 (by simp)).alloc _).1 0, ((Bx.new1 (by simp)).alloc _).1 1, hcs⟩) ?_
   repeat ((first | refine ordC_skip rfl rfl ?_ | refine ordC_skip1 rfl rfl ?_ | ((first | refine ordC_q rfl rfl ?_ | refine ordC_p rfl rfl ?_); apply Exists.intro; refine ⟨fun wS hS => ?_, ?_⟩; (go_simp; try with_reducible rfl))); simp only [Act.put, List.setIfInBounds_toArray, List.set_cons_zero, List.set_cons_succ])
   refine ordC_m rfl rfl rfl (fun K hK => ?_)
   go_simp
   refine hK _ _ trivial ?_
   clear hK K
   refine ordC_nil ?_
   go_wp2_with fail
   refine bodyPost_ret (v := valTo ⟨s, vk⟩) (by simp [results, Tryz.results90, go_sem]) rfl ⟨rfl, ((((Below.refl _ _).alloc (Nat.le_refl _) _).alloc (by simp) _).alloc (by simp; omega) _).drew⟩

theorem r_names14 (h : HC) (tn : List Bs) (a : Option Addr) (n c : Nat) (ts : List Int) (na : Option Addr) (nc : Nat) (names : List Bs) (w0 w : World) (hb : Below w0.heap.size w0 w)
   (hr : Row w0 1 encInt a n c ts) (ht : Row w0 1 encStr h.t.a h.t.n h.t.c tn) (hts : ∀ t ∈ ts, toldB t h.t.n = true)
   (ho : Own w w0.heap.size 9 1 encStr (.slice na names.length nc) names) (hl : names.length + n ≤ 100000) :
   Calls Tryz.prog 50 #[valH h, .slice na names.length nc, .slice a n c] w (RetNames w0 (names ++ ts.map (nameOf tn))) := by
 have HB := hid hb; have HR := hid hr; have HT := hid ht; have HTS := hid hts; have HO := hid ho; have HL := hid hl
 obtain ⟨i, z, hi, hz, hsize, hby', hzs⟩ := partsStr
 have HI := hid (⟨hi, hz, hsize, hby', hzs⟩ : _ ∧ _ ∧ _ ∧ _ ∧ _)
 have hle := hr.le
 have htle := ht.le
 clear hb hr ht hts ho hl hi hz hsize hby' hzs
 go_enter Tryz.func50, Tryz.ntmps50
 go_wp2_with fail
 go_loopw [1, 11] (fun v i wr => ∃ (k : Nat) (a0 : Option Addr) (c0 : Nat), k ≤ n ∧ v = .slice a0 (names.length + k) c0 ∧ i = .int .i64 k ∧ Own wr w0.heap.size 9 1 encStr (.slice a0 (names.length + k) c0) (names ++ (ts.take k).map (nameOf tn)) ∧
     Below w0.heap.size w0 wr ∧ Bx wr w.heap.size (cellsH h) ∧ (Value.slice a0 (names.length + k) c0).ownBlock ≠ some w.heap.size) (fun _ i _ => n - (RowKit.intOf i).toNat)
 case atStart =>
   exact ⟨0, na, nc, Nat.zero_le _, rfl, rfl, by simpa using HO.out.alloc _, HB.out.alloc HB.out.size _, Bx.new1 rfl, fun e => absurd (HO.out.lt _ e).2 (Nat.lt_irrefl _)⟩
 case round =>
   obtain ⟨k, a0, c0, hk, rfl, rfl, how, hbw, hbx, hne⟩ := hrel
   by_cases hlt : k < n
   · obtain ⟨t, b, o, hx, rfl, hc⟩ := (HR.out.below hbw rfl).at_ hlt
     have hc0 := hc 0 _ rfl
     simp only [Nat.mul_one, Nat.add_zero] at hc0
     obtain ⟨ht0, htn⟩ := told_bd (HTS.out t (List.mem_of_getElem? hx))
     obtain ⟨tt, rfl⟩ : ∃ tt : Nat, t = tt := ⟨t.toNat, by omega⟩
     have htt : tt < h.t.n := by omega
     obtain ⟨s, b2, o2, hx2, hab2, hc2⟩ := (HT.out.below hbw rfl).at_ htt
     have hc3 := hc2 0 _ rfl
     simp only [Nat.mul_one, Nat.add_zero] at hc3
     have hch : wr.cell? ⟨w.heap.size, 0, none⟩ = some (.slice (some ⟨b2, o2, none⟩) h.t.n h.t.c) := (hbx.1 0).trans (by rw [← hab2]; rfl)
     have hmap : Hid ((names ++ (ts.take k).map (nameOf tn)) ++ [s] = names ++ (ts.take (k + 1)).map (nameOf tn)) := by
       rw [List.take_add_one, hx]
       exact hid (by simp [nameOf_at hx2])
     have hkl : k ≤ ts.length := by rw [HR.out.len]; omega
     have HN1 : Hid ((names ++ (ts.take k).map (nameOf tn)).length + 1 = names.length + k + 1) := hid (by rw [List.length_append, List.length_map, List.length_take, Nat.min_eq_left hkl])
     have HN2 : Hid ((names.length + k + 1) * 16 ≤ 140737488355328) := hid (by have := HL.out; omega)
     have HN3 : Hid (names.length + k + 1 ≤ maxLen) := hid (by have := HL.out; unfold maxLen; omega)
     have HN4 : Hid (w0.heap.size ≤ (wr.alloc (.cells #[.string ⟨s.toArray⟩] 9)).heap.size) := hid (by have := hbw.size; simp; omega)
     have hlw := hbx.2.2
     have HOW := hid how; have HBW := hid hbw; have HBX := hid hbx; have HNE := hid hne
     clear hc hc2 hx hx2 hab2 how hbw hbx hne ht0 htn hkl
     go_wp2_with (at_builtin; refine wpList_app rfl _ _ 22 rfl i z 16 Tryz.underlying22 HI.out.1 HI.out.2.1 HI.out.2.2.1 HI.out.2.2.2.1 HI.out.2.2.2.2 rfl (HOW.out.alloc _) (some ⟨wr.heap.size, 0, none⟩) 1 1 (names.length + k + 1) [s] rfl (Row.str1 wr s) HN1.out HN2.out HN3.out HN4.out ?_; intro a' c' w1 hown1 hg1 hat1)
     have hne1 : (Value.slice a' (names.length + k + 1) c').ownBlock ≠ some w.heap.size := by
       rcases hat1 with h1 | h1
       · rw [h1]; exact HNE.out
       · rw [h1]; simp; omega
     rw [hmap.out] at hown1
     have HR1 := hid (⟨hown1, below_app (HBW.out.alloc HBW.out.size _) (HOW.out.alloc _) (Nat.le_refl _) HN4.out hg1, (HBX.out.alloc _).grown hg1 HNE.out, hne1⟩ : _ ∧ _ ∧ _ ∧ _)
     clear hown1 hg1 hat1 hne1
     go_roundw
     case rel => exact ⟨k + 1, a', c', by omega, rfl, by go_num, HR1.out⟩
     case measure => simp [RowKit.intOf]; omega
   · obtain rfl : k = n := by omega
     have htk : ts.take k = ts := List.take_of_length_le (by rw [HR.out.len]; exact Nat.le_refl _)
     rw [htk] at how
     have hln : names.length + k = (names ++ ts.map (nameOf tn)).length := by rw [List.length_append, List.length_map, HR.out.len]
     have HOW := hid how; have HBW := hid hbw; have HLN := hid hln
     clear how hbw hbx hne htk hln
     go_wp2_with fail
     go_ret
     rw [HLN.out]
     exact ⟨a0, c0, rfl, by rw [← HLN.out]; exact HOW.out, HBW.out⟩
end Yd


namespace Yd
open Go Go.RowKit Go.Proofs
attribute [local go_sem] Oper.semAt_some

structure EvR (ch ce : Array Value) (w : World) (b5 : Nat) (k : Int) (a : Option Addr) (n c : Nat) (names : List Bs) (lvl : Int) (va : Option Addr) (vn vc : Nat) (vers : List To) (Z : World) : Prop where
 bh : Bx Z w.heap.size ch
 be : Bx Z (w.heap.size + 1) ce
 br : Bx Z (w.heap.size + 2) #[.int .i64 0, .slice none 0 0, .int .i64 0, .slice none 0 0, .bool false, .int .i64 0]
 c5 : Bx Z b5 (cellsLn ⟨k, a, n, c, lvl, va, vn, vc, false, 0⟩)
 on : Own Z w.heap.size 9 1 encStr (.slice a n c) names
 ov : Own Z w.heap.size 98 2 encTo (.slice va vn vc) vers
 fn : ∀ g, (Value.slice a n c).ownBlock = some g → w.heap.size + 3 ≤ g ∧ g ≠ b5
 fv : ∀ g, (Value.slice va vn vc).ownBlock = some g → w.heap.size + 3 ≤ g ∧ g ≠ b5
 le : w.heap.size + 3 ≤ b5
 bw : Below w.heap.size w Z
section
variable {ch ce : Array Value} {w : World} {b5 : Nat} {k : Int} {a : Option Addr} {n c : Nat} {names : List Bs} {lvl : Int} {va : Option Addr} {vn vc : Nat} {vers : List To} {Z : World}
theorem EvR.keep (r : EvR ch ce w b5 k a n c names lvl va vn vc vers Z) {Y : World} (hb : Below Z.heap.size Z Y) : EvR ch ce w b5 k a n c names lvl va vn vc vers Y :=
 ⟨r.bh.keep hb, r.be.keep hb, r.br.keep hb, r.c5.keep hb, r.on.below hb rfl, r.ov.below hb rfl, r.fn, r.fv, r.le, r.bw.trans (hb.mono r.bw.size)⟩
theorem setLn1 {X : World} {b : Nat} (h : Bx X b (cellsLn ⟨k, a, n, c, lvl, va, vn, vc, false, 0⟩)) (a' : Option Addr) (n' c' : Nat) : Bx (X.setCell ⟨b, 1, none⟩ (.slice a' n' c')) b (cellsLn ⟨k, a', n', c', lvl, va, vn, vc, false, 0⟩) := h.setC 1 (by simp) _
theorem setLn2 {X : World} {b : Nat} (h : Bx X b (cellsLn ⟨k, a, n, c, lvl, va, vn, vc, false, 0⟩)) (l : Int) : Bx (X.setCell ⟨b, 2, none⟩ (.int .i64 l)) b (cellsLn ⟨k, a, n, c, l, va, vn, vc, false, 0⟩) := h.setC 2 (by simp) _
theorem setLn3 {X : World} {b : Nat} (h : Bx X b (cellsLn ⟨k, a, n, c, lvl, va, vn, vc, false, 0⟩)) (a' : Option Addr) (n' c' : Nat) : Bx (X.setCell ⟨b, 3, none⟩ (.slice a' n' c')) b (cellsLn ⟨k, a, n, c, lvl, a', n', c', false, 0⟩) := h.setC 3 (by simp) _
theorem EvR.name (r : EvR ch ce w b5 k a n c names lvl va vn vc vers Z) {s : Bs} {Y : World} {a' : Option Addr} {n' c' : Nat} (hn' : n + 1 = n') (hown : Own Y w.heap.size 9 1 encStr (.slice a' n' c') (names ++ [s]))
   (hg : (Z.alloc (.cells #[.string ⟨s.toArray⟩] 9)).grownBy Y (Value.slice a n c).ownBlock)
   (hat : (Value.slice a' n' c').ownBlock = (Value.slice a n c).ownBlock ∨ (Value.slice a' n' c').ownBlock = some (Z.alloc (.cells #[.string ⟨s.toArray⟩] 9)).heap.size) :
   (Bx Y w.heap.size ch ∧ Bx Y (w.heap.size + 1) ce ∧ Bx Y b5 (cellsLn ⟨k, a, n, c, lvl, va, vn, vc, false, 0⟩) ∧ Below w.heap.size w Y) ∧ EvR ch ce w b5 k a' n' c' (names ++ [s]) lvl va vn vc vers (Y.setCell ⟨b5, 1, none⟩ (.slice a' n' c')) := by
 subst hn'
 have hsz := hg.size
 have h5 := r.c5.2.2
 have hne : ∀ b, b < w.heap.size + 3 ∨ b = b5 → (Value.slice a n c).ownBlock ≠ some b := fun b hb e => by have := r.fn b e; omega
 have hs := (Same.refl' Y).setTail (A := fun i => i ≠ b5) (b := b5) (o := 1) (v := .slice a' (n + 1) c') (fun hn => hn rfl)
 have g1 := (r.bh.alloc (.cells #[.string ⟨s.toArray⟩] 9)).grown hg (hne _ (by omega))
 have g2 := (r.be.alloc (.cells #[.string ⟨s.toArray⟩] 9)).grown hg (hne _ (by omega))
 have g3 := (r.br.alloc (.cells #[.string ⟨s.toArray⟩] 9)).grown hg (hne _ (by omega))
 have g5 := (r.c5.alloc (.cells #[.string ⟨s.toArray⟩] 9)).grown hg (hne _ (.inr rfl))
 have hle := r.le
 simp only [World.size_alloc] at hsz hat
 have hfn : ∀ g, (Value.slice a' (n + 1) c').ownBlock = some g → w.heap.size + 3 ≤ g ∧ g ≠ b5 := fun g hg' => by
   rcases hat with e | e
   · rw [e] at hg'; exact r.fn g hg'
   · rw [e] at hg'; injection hg' with hg'; omega
 have hov : Own Y w.heap.size 98 2 encTo (.slice va vn vc) vers := (r.ov.alloc (.cells #[.string ⟨s.toArray⟩] 9)).block fun g hg' => hg.block g (by have := (r.ov.lt g hg').2; simp; omega) (fun e => by
   obtain ⟨cs, fz, h1⟩ := r.ov.tag hg'
   obtain ⟨cs', fz', h2⟩ := r.on.tag e.symm
   rw [h1] at h2
   cases h2)
 have hby := below_app (r.bw.alloc r.bw.size _) (r.on.alloc _) (Nat.le_refl _) (by have := r.bw.size; simp; omega) hg
 refine ⟨⟨g1, g2, g5, hby⟩, hs.bx g1 (by omega), hs.bx g2 (by omega), hs.bx g3 (by omega), setLn1 g5 _ _ _, hown.same hs (fun g hg' => (hfn g hg').2), hov.same hs (fun g hg' => (r.fv g hg').2), hfn, r.fv, hle, ?_⟩
 exact hs.below hby (fun i hi => by show i ≠ b5; omega) (by have := r.bw.size; omega)
theorem EvR.told (r : EvR ch ce w b5 k a n c names lvl va vn vc vers Z) {s : To} {Y : World} {a' : Option Addr} {c' : Nat} (hown : Own Y w.heap.size 98 2 encTo (.slice a' (vn + 1) c') (vers ++ [s]))
   (hg : (Z.alloc (.cells #[.string ⟨s.name.toArray⟩, .int .i64 s.k] 98)).grownBy Y (Value.slice va vn vc).ownBlock)
   (hat : (Value.slice a' (vn + 1) c').ownBlock = (Value.slice va vn vc).ownBlock ∨ (Value.slice a' (vn + 1) c').ownBlock = some (Z.alloc (.cells #[.string ⟨s.name.toArray⟩, .int .i64 s.k] 98)).heap.size) :
   (Bx Y w.heap.size ch ∧ Bx Y (w.heap.size + 1) ce ∧ Bx Y b5 (cellsLn ⟨k, a, n, c, lvl, va, vn, vc, false, 0⟩) ∧ Below w.heap.size w Y) ∧ EvR ch ce w b5 k a n c names lvl a' (vn + 1) c' (vers ++ [s]) (Y.setCell ⟨b5, 3, none⟩ (.slice a' (vn + 1) c')) := by
 have hsz := hg.size
 have h5 := r.c5.2.2
 have hne : ∀ b, b < w.heap.size + 3 ∨ b = b5 → (Value.slice va vn vc).ownBlock ≠ some b := fun b hb e => by have := r.fv b e; omega
 have hs := (Same.refl' Y).setTail (A := fun i => i ≠ b5) (b := b5) (o := 3) (v := .slice a' (vn + 1) c') (fun hn => hn rfl)
 have g1 := (r.bh.alloc (.cells #[.string ⟨s.name.toArray⟩, .int .i64 s.k] 98)).grown hg (hne _ (by omega))
 have g2 := (r.be.alloc (.cells #[.string ⟨s.name.toArray⟩, .int .i64 s.k] 98)).grown hg (hne _ (by omega))
 have g3 := (r.br.alloc (.cells #[.string ⟨s.name.toArray⟩, .int .i64 s.k] 98)).grown hg (hne _ (by omega))
 have g5 := (r.c5.alloc (.cells #[.string ⟨s.name.toArray⟩, .int .i64 s.k] 98)).grown hg (hne _ (.inr rfl))
 have hle := r.le
 simp only [World.size_alloc] at hsz hat
 have hfn : ∀ g, (Value.slice a' (vn + 1) c').ownBlock = some g → w.heap.size + 3 ≤ g ∧ g ≠ b5 := fun g hg' => by
   rcases hat with e | e
   · rw [e] at hg'; exact r.fv g hg'
   · rw [e] at hg'; injection hg' with hg'; omega
 have hov : Own Y w.heap.size 9 1 encStr (.slice a n c) names := (r.on.alloc (.cells #[.string ⟨s.name.toArray⟩, .int .i64 s.k] 98)).block fun g hg' => hg.block g (by have := (r.on.lt g hg').2; simp; omega) (fun e => by
   obtain ⟨cs, fz, h1⟩ := r.on.tag hg'
   obtain ⟨cs', fz', h2⟩ := r.ov.tag e.symm
   rw [h1] at h2
   cases h2)
 have hby := below_app (r.bw.alloc r.bw.size _) (r.ov.alloc _) (Nat.le_refl _) (by have := r.bw.size; simp; omega) hg
 refine ⟨⟨g1, g2, g5, hby⟩, hs.bx g1 (by omega), hs.bx g2 (by omega), hs.bx g3 (by omega), setLn3 g5 _ _ _, hov.same hs (fun g hg' => (r.fn g hg').2), hown.same hs (fun g hg' => (hfn g hg').2), r.fn, hfn, hle, ?_⟩
 exact hs.below hby (fun i hi => by show i ≠ b5; omega) (by have := r.bw.size; omega)
theorem EvR.oneRet (r : EvR ch ce w b5 k a n c names lvl none 0 0 [] Z) (s : To) {Y : World} (hs : Same (fun i => i ≠ w.heap.size + 2) (Z.setCell ⟨b5, 3, none⟩ (.slice (some ⟨Z.heap.size, 0, none⟩) 1 1)) Y) (hz : Y.heap.size = Z.heap.size) :
   RetLn ⟨k, names, lvl, [s], false, 0⟩ w (.returned (valLn ⟨k, a, n, c, lvl, some ⟨Z.heap.size, 0, none⟩, 1, 1, false, 0⟩)) (Y.alloc (.cells #[.string ⟨s.name.toArray⟩, .int .i64 s.k] 98)) := by
 have h5 := r.c5.2.2
 have hle := r.le
 have hbs := r.bw.size
 have hs5 := (Same.refl' Z).setTail (A := fun i => i ≠ b5) (b := b5) (o := 3) (v := .slice (some ⟨Z.heap.size, 0, none⟩) 1 1) (fun hn => hn rfl)
 have ho := Own.new (hc := cInsTo) Y Z.heap.size 98 (enc := encTo) #[.string ⟨s.name.toArray⟩, .int .i64 s.k] [s] (Nat.le_of_eq hz.symm) rfl (by simp [maxLen])
 rw [hz] at ho
 have hb := hs.below (hs5.below r.bw (fun i hi => by show i ≠ b5; omega) hbs) (fun i hi => by show i ≠ w.heap.size + 2; omega) (by have := hs5.size; omega)
 exact ⟨_, rfl, ⟨⟨rfl, rfl, rfl, rfl, r.on.len, rfl⟩, ((r.on.same hs5 (fun g hg => (r.fn g hg).2)).same hs (fun g hg => by have := (r.fn g hg).1; show g ≠ w.heap.size + 2; omega)).alloc _, ho.mono hbs⟩, hb.alloc hb.size _⟩
theorem EvR.level (r : EvR ch ce w b5 k a n c names lvl va vn vc vers Z) (l : Int) : EvR ch ce w b5 k a n c names l va vn vc vers (Z.setCell ⟨b5, 2, none⟩ (.int .i64 l)) := by
 have hs := (Same.refl' Z).setTail (A := fun i => i ≠ b5) (b := b5) (o := 2) (v := .int .i64 l) (fun hn => hn rfl)
 have hle := r.le
 exact ⟨hs.bx r.bh (by omega), hs.bx r.be (by omega), hs.bx r.br (by omega), setLn2 r.c5 _, r.on.same hs (fun g hg => (r.fn g hg).2), r.ov.same hs (fun g hg => (r.fv g hg).2), r.fn, r.fv, hle, hs.below r.bw (fun i hi => by show i ≠ b5; omega) r.bw.size⟩
theorem EvR.ret (r : EvR ch ce w b5 k a n c names lvl va vn vc vers Z) {Y : World} (hs : Same (fun i => i ≠ w.heap.size + 2) Z Y) : RetLn ⟨k, names, lvl, vers, false, 0⟩ w (.returned (valLn ⟨k, a, n, c, lvl, va, vn, vc, false, 0⟩)) Y :=
 ⟨_, rfl, ⟨⟨rfl, rfl, rfl, rfl, r.on.len, r.ov.len⟩, r.on.same hs (fun g hg => by have := (r.fn g hg).1; show g ≠ w.heap.size + 2; omega), r.ov.same hs (fun g hg => by have := (r.fv g hg).1; show g ≠ w.heap.size + 2; omega)⟩, hs.below r.bw (fun i hi => by show i ≠ w.heap.size + 2; omega) r.bw.size⟩
end

theorem r_event14 (h : HC) (tn sn on pn : List Bs) (e : EvC) (scan : List Sn) (w : World)
   (hrt : Row w 1 encStr h.t.a h.t.n h.t.c tn) (hrs : Row w 1 encStr h.s.a h.s.n h.s.c sn) (hro : Row w 1 encStr h.o.a h.o.n h.o.c on) (hrp : Row w 1 encStr h.p.a h.p.n h.p.c pn) (hrc : Row w 3 encSn e.sa e.sn e.sc scan)
   (he : evB h.t.n h.s.n h.o.n h.p.n e scan = true) :
   Calls Tryz.prog 49 #[valH h, valEv e] w (RetLn (eventS tn sn on pn e scan) w) := by
 obtain ⟨⟨ta, tn_, tc⟩, ⟨sa, sn_, sc⟩, ⟨oa, on_, oc⟩, ⟨pa, pn_, pc⟩, hee, hdd, hmm, hww⟩ := h
 obtain ⟨ek, et, es, el, eo, ⟨evt, evk⟩, ep, esa, esn, esc⟩ := e
 simp only at hrt hrs hro hrp hrc he
 have het : toldB et tn_ = true := by simp only [evB, Bool.and_eq_true] at he; exact he.1.1.2
 obtain ⟨q0, q1⟩ := told_bd het
 obtain ⟨q, rfl⟩ : ∃ q : Nat, et = q := ⟨et.toNat, by omega⟩
 obtain ⟨x, tb, to, hx, rfl, hxc⟩ := hrt.at_ (i := q) (by omega)
 have hxn := nameOf_at hx
 have hx0 := hxc 0 _ rfl
 simp only [Nat.mul_one, Nat.add_zero] at hx0
 have htcap := hrt.cap
 have HV := hid (belowA (belowA (belowA (Below.refl w.heap.size w) (.cells #[.slice (some ⟨tb, to, none⟩) tn_ tc, .slice sa sn_ sc, .slice oa on_ oc, .slice pa pn_ pc, hee.v, hdd.v, hmm.v, hww.v] 28)) (.cells #[.int .i64 ek, .int .i64 (q : Nat), .int .i64 es, .int .i64 el, .int .i64 eo, .int .i64 evt, .int .i64 evk, .int .i64 ep, .slice esa esn esc] 49)) (.cells #[.int .i64 0, .slice none 0 0, .int .i64 0, .slice none 0 0, .bool false, .int .i64 0] 41))
 have HRT := hid hrt; have HRS := hid hrs; have HRO := hid hro; have HRP := hid hrp; have HRC := hid hrc; have HE := hid he; have HXN := hid hxn
 have HX0 := hid (bget HV.out rfl hx0)
 have HH := hid (((Bx.new w #[.slice (some ⟨tb, to, none⟩) tn_ tc, .slice sa sn_ sc, .slice oa on_ oc, .slice pa pn_ pc, hee.v, hdd.v, hmm.v, hww.v] 28).alloc (.cells #[.int .i64 ek, .int .i64 (q : Nat), .int .i64 es, .int .i64 el, .int .i64 eo, .int .i64 evt, .int .i64 evk, .int .i64 ep, .slice esa esn esc] 49)).alloc (.cells #[.int .i64 0, .slice none 0 0, .int .i64 0, .slice none 0 0, .bool false, .int .i64 0] 41))
 have HEB := hid ((Bx.new1 (X := w.alloc (.cells #[.slice (some ⟨tb, to, none⟩) tn_ tc, .slice sa sn_ sc, .slice oa on_ oc, .slice pa pn_ pc, hee.v, hdd.v, hmm.v, hww.v] 28)) (cs := #[.int .i64 ek, .int .i64 (q : Nat), .int .i64 es, .int .i64 el, .int .i64 eo, .int .i64 evt, .int .i64 evk, .int .i64 ep, .slice esa esn esc]) (T := 49) (b := w.heap.size + 1) (by simp)).alloc (.cells #[.int .i64 0, .slice none 0 0, .int .i64 0, .slice none 0 0, .bool false, .int .i64 0] 41))
 have HR := hid (Bx.new1 (X := (w.alloc (.cells #[.slice (some ⟨tb, to, none⟩) tn_ tc, .slice sa sn_ sc, .slice oa on_ oc, .slice pa pn_ pc, hee.v, hdd.v, hmm.v, hww.v] 28)).alloc (.cells #[.int .i64 ek, .int .i64 (q : Nat), .int .i64 es, .int .i64 el, .int .i64 eo, .int .i64 evt, .int .i64 evk, .int .i64 ep, .slice esa esn esc] 49)) (cs := #[.int .i64 0, .slice none 0 0, .int .i64 0, .slice none 0 0, .bool false, .int .i64 0]) (T := 41) (b := w.heap.size + 2) (by simp))
 clear hrt hrs hro hrp hrc he het hx hxc hx0 hxn
 go_enter Tryz.func49, Tryz.ntmps49
 go_wp2_with fail
 refine wp_mono (Q := fun ee a Z => ee = .normal ∧ ∃ v8 v9 v10 v11 v12 v13 v14 v15 v16 v17 b5 na nc, EvR #[.slice (some ⟨tb, to, none⟩) tn_ tc, .slice sa sn_ sc, .slice oa on_ oc, .slice pa pn_ pc, hee.v, hdd.v, hmm.v, hww.v] #[.int .i64 ek, .int .i64 (q : Nat), .int .i64 es, .int .i64 el, .int .i64 eo, .int .i64 evt, .int .i64 evk, .int .i64 ep, .slice esa esn esc] w b5 ek na 1 nc [x] 0 none 0 0 [] Z ∧ a = { tmps := ((valH ⟨⟨(some ⟨tb, to, none⟩), tn_, tc⟩, ⟨sa, sn_, sc⟩, ⟨oa, on_, oc⟩, ⟨pa, pn_, pc⟩, hee, hdd, hmm, hww⟩) :: (valEv ⟨ek, (q : Nat), es, el, eo, ⟨evt, evk⟩, ep, esa, esn, esc⟩) :: (.pointer (some ⟨w.heap.size, 0, none⟩)) :: (.pointer (some ⟨w.heap.size + 1, 0, none⟩)) :: (.pointer (some ⟨w.heap.size + 2, 0, none⟩)) :: (.pointer (some ⟨b5, 0, none⟩)) :: undef :: undef :: v8 :: v9 :: v10 :: v11 :: v12 :: v13 :: v14 :: v15 :: v16 :: v17 :: undef :: undef :: undef :: undef :: undef :: undef :: undef :: undef :: undef :: undef :: undef :: undef :: undef :: undef :: undef :: undef :: undef :: undef :: undef :: undef :: undef :: undef :: undef :: undef :: undef :: undef :: undef :: undef :: undef :: undef :: undef :: undef :: undef :: undef :: undef :: undef :: undef :: undef :: undef :: undef :: undef :: undef :: undef :: undef :: undef :: undef :: undef :: undef :: undef :: undef :: undef :: undef :: undef :: undef :: undef :: undef :: undef :: undef :: undef :: undef :: undef :: undef :: undef :: undef :: undef :: undef :: undef :: undef :: undef :: undef :: undef :: undef :: undef :: undef :: undef :: undef :: undef :: undef :: undef :: undef :: undef :: undef :: undef :: undef :: undef :: undef :: undef :: undef :: undef :: undef :: undef :: undef :: []).toArray, defers := [] }) ?reg ?rest
 case reg =>
   refine wp_region_ordT 11 (.q 0 0 (.q 1 0 (.q 2 0 (.q 3 0 (.q 4 0 (.q 5 0 (.q 6 0 (.q 7 0 (.alt 8 (.q 9 0 (.l 10 (.l 11 .nil))) 10 (.l 8 (.q 9 0 (.l 11 .nil)))))))))))) (fun _ => True) (fun W' => Bx W' w.heap.size #[.slice (some ⟨tb, to, none⟩) tn_ tc, .slice sa sn_ sc, .slice oa on_ oc, .slice pa pn_ pc, hee.v, hdd.v, hmm.v, hww.v] ∧ Bx W' (w.heap.size + 1) #[.int .i64 ek, .int .i64 (q : Nat), .int .i64 es, .int .i64 el, .int .i64 eo, .int .i64 evt, .int .i64 evk, .int .i64 ep, .slice esa esn esc] ∧ W'.cell? ⟨tb, to + q, none⟩ = some (.string ⟨x.toArray⟩)) (by kernel_rfl) (by kernel_rfl) trivial ⟨HH.out.drew, HEB.out.drew, HX0.out⟩ ?_
   repeat ((first | ((first | refine ordT_q rfl rfl ?_ | refine ordT_p rfl rfl ?_); apply Exists.intro; refine ⟨fun wS hS => ?_, ?_⟩; (go_simp; try with_reducible rfl))); simp only [Act.put, List.setIfInBounds_toArray, List.set_cons_zero, List.set_cons_succ])
   refine ⟨?_, ?_⟩
   · refine ordT_one rfl rfl (fun K hK => ?_)
     go_simp
     refine hK _ _ ⟨trivial, HH.out.drew.alloc _, HEB.out.drew.alloc _, cellA _ HX0.out⟩ ?_
     clear hK K
     repeat ((first | ((first | refine ordT_q rfl rfl ?_ | refine ordT_p rfl rfl ?_); apply Exists.intro; refine ⟨fun wS hS => ?_, ?_⟩; (go_simp; try with_reducible rfl))); simp only [Act.put, List.setIfInBounds_toArray, List.set_cons_zero, List.set_cons_succ])
     refine ordT_l rfl rfl (fun K hK => ?_)
     go_simp
     refine hK _ _ ⟨trivial, (HH.out.drew.alloc _).alloc _, (HEB.out.drew.alloc _).alloc _, cellA _ (cellA _ HX0.out)⟩ ?_
     clear hK K
     refine ordT_m rfl rfl rfl (fun K hK => ?_)
     go_simp
     refine hK _ _ trivial ?_
     clear hK K
     refine ordT_nil ?_
     refine ⟨rfl, _, _, _, _, _, _, _, _, _, _, w.heap.size + 4, some ⟨w.heap.size + 3, 0, none⟩, 1, ⟨(HH.out.drew.alloc _).alloc _, (HEB.out.drew.alloc _).alloc _, (HR.out.drew.alloc _).alloc _, Bx.new1 (by simp), (((Own.strs (by simp) [x] (by simp [maxLen])).alloc _).mono (by omega)), Own.nil_ _ _ _ _ _, fun g hg => by injection hg with hg; simp at hg; omega, fun g hg => (by cases hg), by omega, belowA (belowA HV.out.drew _) _⟩, rfl⟩
   · refine ordT_one rfl rfl (fun K hK => ?_)
     go_simp
     refine hK _ _ ⟨trivial, HH.out.drew.alloc _, HEB.out.drew.alloc _, cellA _ HX0.out⟩ ?_
     clear hK K
     refine ordT_l rfl rfl (fun K hK => ?_)
     go_simp
     refine hK _ _ ⟨trivial, (HH.out.drew.alloc _).alloc _, (HEB.out.drew.alloc _).alloc _, cellA _ (cellA _ HX0.out)⟩ ?_
     clear hK K
     repeat ((first | ((first | refine ordT_q rfl rfl ?_ | refine ordT_p rfl rfl ?_); apply Exists.intro; refine ⟨fun wS hS => ?_, ?_⟩; (go_simp; try with_reducible rfl))); simp only [Act.put, List.setIfInBounds_toArray, List.set_cons_zero, List.set_cons_succ])
     refine ordT_m rfl rfl rfl (fun K hK => ?_)
     go_simp
     refine hK _ _ trivial ?_
     clear hK K
     refine ordT_nil ?_
     refine ⟨rfl, _, _, _, _, _, _, _, _, _, _, w.heap.size + 3, some ⟨w.heap.size + 1 + 1 + 1 + 1, 0, none⟩, 1, ⟨(HH.out.drew.alloc _).alloc _, (HEB.out.drew.alloc _).alloc _, (HR.out.drew.alloc _).alloc _, (Bx.new1 (by simp)).alloc _, ((Own.strs (by simp) [x] (by simp [maxLen])).mono (by omega)), Own.nil_ _ _ _ _ _, fun g hg => by injection hg with hg; simp at hg; omega, fun g hg => (by cases hg), by omega, belowA (belowA HV.out.drew _) _⟩, rfl⟩
 case rest =>
   rintro ee a Z ⟨rfl, v8, v9, v10, v11, v12, v13, v14, v15, v16, v17, b5, na, nc, hev, rfl⟩
   have HEV := hid hev
   have hbe := hev.be.1; have hle_ := hev.be.2.2
   clear hev HV HX0 HH HEB HR
   have hkk : ek = 1 ∨ ek = 2 ∨ ek = 3 ∨ ek = 4 ∨ ek = 5 ∨ ek = 6 := by
     have := HE.out
     simp only [evB, Bool.and_eq_true, decide_eq_true_eq] at this
     omega
   obtain ⟨i, z, hi, hz, hsize, hby', hzs⟩ := partsStr
   have HI := hid (⟨hi, hz, hsize, hby', hzs⟩ : _ ∧ _ ∧ _ ∧ _ ∧ _)
   clear hi hz hsize hby' hzs
   obtain ⟨i2, z2, hi, hz, hsize, hby', hzs⟩ := partsTo
   have HI2 := hid (⟨hi, hz, hsize, hby', hzs⟩ : _ ∧ _ ∧ _ ∧ _ ∧ _)
   clear hi hz hsize hby' hzs
   rcases hkk with rfl | rfl | rfl | rfl | rfl | rfl
   · skip
     have hh : hasB tn_ sn_ on_ pn_ ⟨1, (q : Nat), es, el, eo, ⟨evt, evk⟩, ep, esa, esn, esc⟩ scan = true := by have := HE.out; simp only [evB, Bool.and_eq_true] at this; exact this.1.2
     simp only [hasB, Bool.and_eq_true, if_true] at hh
     have HHH := hid hh
     obtain ⟨p0, p1⟩ := told_bd hh.1
     obtain ⟨qA, rfl⟩ : ∃ q : Nat, es = q := ⟨es.toNat, by omega⟩
     obtain ⟨xA, xbA, xoA, hx, rfl, hxc⟩ := HRS.out.at_ (i := qA) (by omega)
     have hx0 := hxc 0 _ rfl
     simp only [Nat.mul_one, Nat.add_zero] at hx0
     have HXNA := hid (nameOf_at hx)
     have HNA : Hid (∀ X, Below w.heap.size w X → X.cell? ⟨xbA, xoA + qA, none⟩ = some (.string ⟨xA.toArray⟩)) := hid (fun X hX => bget hX rfl hx0)
     have hcapA := HRS.out.cap
     clear hx hxc hx0
     clear hh
     have HLA : Hid (([x] : List Bs).length + 1 = 2 ∧ 2 * 16 ≤ 140737488355328 ∧ 2 ≤ maxLen) := hid ⟨rfl, by decide, by decide⟩
     have hbe := HEV.out.be.1; have hle_ := HEV.out.be.2.2
     go_wp2_with fail
     refine wp_region_ordC 10 [(0, 0), (1, 0), (2, 0), (3, 0), (4, 0), (5, 0), (6, 0), (7, 0), (8, 2), (9, 2), (10, 1), (11, 2)] (fun _ => True) (fun W' => Bx W' w.heap.size #[.slice (some ⟨tb, to, none⟩) tn_ tc, .slice (some ⟨xbA, xoA, none⟩) sn_ sc, .slice oa on_ oc, .slice pa pn_ pc, hee.v, hdd.v, hmm.v, hww.v] ∧ Bx W' (w.heap.size + 1) #[.int .i64 1, .int .i64 (q : Nat), .int .i64 (qA : Nat), .int .i64 el, .int .i64 eo, .int .i64 evt, .int .i64 evk, .int .i64 ep, .slice esa esn esc] ∧ Bx W' b5 (cellsLn ⟨1, na, 1, nc, 0, none, 0, 0, false, 0⟩) ∧ W'.cell? ⟨xbA, xoA + qA, none⟩ = some (.string ⟨xA.toArray⟩)) (by kernel_rfl) (by kernel_rfl) (trivial) (⟨HEV.out.bh, HEV.out.be, HEV.out.c5, HNA.out _ HEV.out.bw.drew⟩) ?_
     repeat ((first | refine ordC_skip rfl rfl ?_ | refine ordC_skip1 rfl rfl ?_ | ((first | refine ordC_q rfl rfl ?_ | refine ordC_p rfl rfl ?_); apply Exists.intro; refine ⟨fun wS hS => ?_, ?_⟩; (go_simp; try with_reducible rfl))); simp only [Act.put, List.setIfInBounds_toArray, List.set_cons_zero, List.set_cons_succ])
     refine ordC_l rfl rfl (fun K hK => ?_)
     go_simp
     refine hK _ _ ⟨trivial, HEV.out.bh.drew.alloc _, HEV.out.be.drew.alloc _, HEV.out.c5.drew.alloc _, cellA _ (HNA.out _ HEV.out.bw)⟩ ?_
     clear hK K
     refine ordC_l rfl rfl (fun K hK => ?_)
     refine wp_app _ _ 22 rfl i z 16 Tryz.underlying22 HI.out.1 HI.out.2.1 HI.out.2.2.1 HI.out.2.2.2.1 HI.out.2.2.2.2 (v := .slice na 1 nc) rfl ((HEV.out.keep (Below.refl _ _).drew).on.alloc _) (some ⟨Z.heap.size, 0, none⟩) 1 1 2 [xA] rfl (Row.str1 _ xA) HLA.out.1 HLA.out.2.1 HLA.out.2.2 (by have := HEV.out.bw.size; simp; omega) ?_
     intro naA ncA wA hown hg hat
     have hnm := (HEV.out.keep (Below.refl _ _).drew).name (n' := 2) rfl hown hg hat
     have A := hid hnm.2; have HBA := hid hnm.1
     refine hK _ _ ⟨trivial, HBA.out.1, HBA.out.2.1, HBA.out.2.2.1, HNA.out _ HBA.out.2.2.2⟩ ?_
     clear hK K hown hg hat hnm
     have hcb := HBA.out.2.2.1.1; have hfb := HBA.out.2.2.1.2.1; have hlb := HBA.out.2.2.1.2.2
     repeat ((first | refine ordC_skip rfl rfl ?_ | refine ordC_skip1 rfl rfl ?_ | ((first | refine ordC_q rfl rfl ?_ | refine ordC_p rfl rfl ?_); apply Exists.intro; refine ⟨fun wS hS => ?_, ?_⟩; (go_simp; try with_reducible rfl))); simp only [Act.put, List.setIfInBounds_toArray, List.set_cons_zero, List.set_cons_succ])
     refine ordC_m rfl rfl rfl (fun K hK => ?_)
     go_simp
     refine hK _ _ trivial ?_
     clear hK K
     refine ordC_nil ?_
     clear hcb hfb hlb
     generalize wA.setCell ⟨b5, 1, none⟩ (.slice naA 2 ncA) = ZA at A ⊢
     have hbe := A.out.be.1; have hle_ := A.out.be.2.2; skip
     have B := hid (A.out.level el)
     have HS : Hid (eventS tn sn on pn ⟨1, (q : Nat), (qA : Nat), el, eo, ⟨evt, evk⟩, ep, esa, esn, esc⟩ scan = ⟨1, [x] ++ [xA], el, [], false, 0⟩) := hid (by simp [eventS, HXN.out, HXNA.out])
     have hb5 := A.out.c5.1; have hf5 := A.out.c5.2.1; have hl5 := A.out.c5.2.2; have hbr := A.out.br.1; have hfr := A.out.br.2.1; have hlr := A.out.br.2.2
     have hne5 : b5 ≠ w.heap.size + 2 := by have := B.out.le; omega
     have hne6 := Ne.symm hne5
     have FIN : Hid (∀ Y, Same (fun i => i ≠ w.heap.size + 2) _ Y → RetLn (eventS tn sn on pn ⟨1, (q : Nat), (qA : Nat), el, eo, ⟨evt, evk⟩, ep, esa, esn, esc⟩ scan) w (.returned (valLn ⟨1, naA, 2, ncA, el, none, 0, 0, false, 0⟩)) Y) := hid (fun Y hs => by rw [HS.out]; exact B.out.ret hs)
     go_wp2_with fail
     refine bodyPost_ret (v := valLn ⟨1, naA, 2, ncA, el, none, 0, 0, false, 0⟩) (by simp [results, Tryz.results49, go_sem, hbr]) rfl (FIN.out _ ?_)
     repeat (first | (with_reducible exact Same.refl' _) | (refine Same.setTail ?_ (by simp)))
   · skip
     have hh : hasB tn_ sn_ on_ pn_ ⟨2, (q : Nat), es, el, eo, ⟨evt, evk⟩, ep, esa, esn, esc⟩ scan = true := by have := HE.out; simp only [evB, Bool.and_eq_true] at this; exact this.1.2
     simp only [hasB, Bool.and_eq_true, decide_eq_true_eq, if_true, show ((2 : Int) = 1) = False from by decide, reduceIte] at hh
     have HHH := hid hh
     obtain ⟨p0, p1⟩ := told_bd hh.1.1.1
     obtain ⟨qA, rfl⟩ : ∃ q : Nat, eo = q := ⟨eo.toNat, by omega⟩
     obtain ⟨xA, xbA, xoA, hx, rfl, hxc⟩ := HRO.out.at_ (i := qA) (by omega)
     have hx0 := hxc 0 _ rfl
     simp only [Nat.mul_one, Nat.add_zero] at hx0
     have HXNA := hid (nameOf_at hx)
     have HNA : Hid (∀ X, Below w.heap.size w X → X.cell? ⟨xbA, xoA + qA, none⟩ = some (.string ⟨xA.toArray⟩)) := hid (fun X hX => bget hX rfl hx0)
     have hcapA := HRO.out.cap
     clear hx hxc hx0
     clear hh
     have HLA : Hid (([x] : List Bs).length + 1 = 2 ∧ 2 * 16 ≤ 140737488355328 ∧ 2 ≤ maxLen) := hid ⟨rfl, by decide, by decide⟩
     have hbe := HEV.out.be.1; have hle_ := HEV.out.be.2.2
     go_wp2_with fail
     refine wp_region_ordC 10 [(0, 0), (1, 0), (2, 0), (3, 0), (4, 0), (5, 0), (6, 0), (7, 0), (8, 2), (9, 2), (10, 1), (11, 2)] (fun _ => True) (fun W' => Bx W' w.heap.size #[.slice (some ⟨tb, to, none⟩) tn_ tc, .slice sa sn_ sc, .slice (some ⟨xbA, xoA, none⟩) on_ oc, .slice pa pn_ pc, hee.v, hdd.v, hmm.v, hww.v] ∧ Bx W' (w.heap.size + 1) #[.int .i64 2, .int .i64 (q : Nat), .int .i64 es, .int .i64 el, .int .i64 (qA : Nat), .int .i64 evt, .int .i64 evk, .int .i64 ep, .slice esa esn esc] ∧ Bx W' b5 (cellsLn ⟨2, na, 1, nc, 0, none, 0, 0, false, 0⟩) ∧ W'.cell? ⟨xbA, xoA + qA, none⟩ = some (.string ⟨xA.toArray⟩)) (by kernel_rfl) (by kernel_rfl) (trivial) (⟨HEV.out.bh, HEV.out.be, HEV.out.c5, HNA.out _ HEV.out.bw.drew⟩) ?_
     repeat ((first | refine ordC_skip rfl rfl ?_ | refine ordC_skip1 rfl rfl ?_ | ((first | refine ordC_q rfl rfl ?_ | refine ordC_p rfl rfl ?_); apply Exists.intro; refine ⟨fun wS hS => ?_, ?_⟩; (go_simp; try with_reducible rfl))); simp only [Act.put, List.setIfInBounds_toArray, List.set_cons_zero, List.set_cons_succ])
     refine ordC_l rfl rfl (fun K hK => ?_)
     go_simp
     refine hK _ _ ⟨trivial, HEV.out.bh.drew.alloc _, HEV.out.be.drew.alloc _, HEV.out.c5.drew.alloc _, cellA _ (HNA.out _ HEV.out.bw)⟩ ?_
     clear hK K
     refine ordC_l rfl rfl (fun K hK => ?_)
     refine wp_app _ _ 22 rfl i z 16 Tryz.underlying22 HI.out.1 HI.out.2.1 HI.out.2.2.1 HI.out.2.2.2.1 HI.out.2.2.2.2 (v := .slice na 1 nc) rfl ((HEV.out.keep (Below.refl _ _).drew).on.alloc _) (some ⟨Z.heap.size, 0, none⟩) 1 1 2 [xA] rfl (Row.str1 _ xA) HLA.out.1 HLA.out.2.1 HLA.out.2.2 (by have := HEV.out.bw.size; simp; omega) ?_
     intro naA ncA wA hown hg hat
     have hnm := (HEV.out.keep (Below.refl _ _).drew).name (n' := 2) rfl hown hg hat
     have A := hid hnm.2; have HBA := hid hnm.1
     refine hK _ _ ⟨trivial, HBA.out.1, HBA.out.2.1, HBA.out.2.2.1, HNA.out _ HBA.out.2.2.2⟩ ?_
     clear hK K hown hg hat hnm
     have hcb := HBA.out.2.2.1.1; have hfb := HBA.out.2.2.1.2.1; have hlb := HBA.out.2.2.1.2.2
     repeat ((first | refine ordC_skip rfl rfl ?_ | refine ordC_skip1 rfl rfl ?_ | ((first | refine ordC_q rfl rfl ?_ | refine ordC_p rfl rfl ?_); apply Exists.intro; refine ⟨fun wS hS => ?_, ?_⟩; (go_simp; try with_reducible rfl))); simp only [Act.put, List.setIfInBounds_toArray, List.set_cons_zero, List.set_cons_succ])
     refine ordC_m rfl rfl rfl (fun K hK => ?_)
     go_simp
     refine hK _ _ trivial ?_
     clear hK K
     refine ordC_nil ?_
     clear hcb hfb hlb
     generalize wA.setCell ⟨b5, 1, none⟩ (.slice naA 2 ncA) = ZA at A ⊢
     have HS : Hid (eventS tn sn on pn ⟨2, (q : Nat), es, el, (qA : Nat), ⟨evt, evk⟩, ep, esa, esn, esc⟩ scan = ⟨2, [x] ++ [xA], 0, [], false, 0⟩) := hid (by simp [eventS, HXN.out, HXNA.out])
     have hb5 := A.out.c5.1; have hf5 := A.out.c5.2.1; have hl5 := A.out.c5.2.2; have hbr := A.out.br.1; have hfr := A.out.br.2.1; have hlr := A.out.br.2.2
     have hne5 : b5 ≠ w.heap.size + 2 := by have := A.out.le; omega
     have hne6 := Ne.symm hne5
     have FIN : Hid (∀ Y, Same (fun i => i ≠ w.heap.size + 2) _ Y → RetLn (eventS tn sn on pn ⟨2, (q : Nat), es, el, (qA : Nat), ⟨evt, evk⟩, ep, esa, esn, esc⟩ scan) w (.returned (valLn ⟨2, naA, 2, ncA, 0, none, 0, 0, false, 0⟩)) Y) := hid (fun Y hs => by rw [HS.out]; exact A.out.ret hs)
     go_wp2_with fail
     refine bodyPost_ret (v := valLn ⟨2, naA, 2, ncA, 0, none, 0, 0, false, 0⟩) (by simp [results, Tryz.results49, go_sem, hbr]) rfl (FIN.out _ ?_)
     repeat (first | (with_reducible exact Same.refl' _) | (refine Same.setTail ?_ (by simp)))
   · skip
     have hh : hasB tn_ sn_ on_ pn_ ⟨3, (q : Nat), es, el, eo, ⟨evt, evk⟩, ep, esa, esn, esc⟩ scan = true := by have := HE.out; simp only [evB, Bool.and_eq_true] at this; exact this.1.2
     simp only [hasB, Bool.and_eq_true, if_true, show ((3 : Int) = 1) = False from by decide, show ((3 : Int) = 2) = False from by decide, reduceIte] at hh
     have HHH := hid hh
     obtain ⟨p0, p1⟩ := told_bd hh.1
     obtain ⟨qA, rfl⟩ : ∃ q : Nat, eo = q := ⟨eo.toNat, by omega⟩
     obtain ⟨xA, xbA, xoA, hx, rfl, hxc⟩ := HRO.out.at_ (i := qA) (by omega)
     have hx0 := hxc 0 _ rfl
     simp only [Nat.mul_one, Nat.add_zero] at hx0
     have HXNA := hid (nameOf_at hx)
     have HNA : Hid (∀ X, Below w.heap.size w X → X.cell? ⟨xbA, xoA + qA, none⟩ = some (.string ⟨xA.toArray⟩)) := hid (fun X hX => bget hX rfl hx0)
     have hcapA := HRO.out.cap
     clear hx hxc hx0
     clear hh
     have HLA : Hid (([x] : List Bs).length + 1 = 2 ∧ 2 * 16 ≤ 140737488355328 ∧ 2 ≤ maxLen) := hid ⟨rfl, by decide, by decide⟩
     have hbe := HEV.out.be.1; have hle_ := HEV.out.be.2.2
     go_wp2_with fail
     refine wp_region_ordC 10 [(0, 0), (1, 0), (2, 0), (3, 0), (4, 0), (5, 0), (6, 0), (7, 0), (8, 2), (9, 2), (10, 1), (11, 2)] (fun _ => True) (fun W' => Bx W' w.heap.size #[.slice (some ⟨tb, to, none⟩) tn_ tc, .slice sa sn_ sc, .slice (some ⟨xbA, xoA, none⟩) on_ oc, .slice pa pn_ pc, hee.v, hdd.v, hmm.v, hww.v] ∧ Bx W' (w.heap.size + 1) #[.int .i64 3, .int .i64 (q : Nat), .int .i64 es, .int .i64 el, .int .i64 (qA : Nat), .int .i64 evt, .int .i64 evk, .int .i64 ep, .slice esa esn esc] ∧ Bx W' b5 (cellsLn ⟨3, na, 1, nc, 0, none, 0, 0, false, 0⟩) ∧ W'.cell? ⟨xbA, xoA + qA, none⟩ = some (.string ⟨xA.toArray⟩)) (by kernel_rfl) (by kernel_rfl) (trivial) (⟨HEV.out.bh, HEV.out.be, HEV.out.c5, HNA.out _ HEV.out.bw.drew⟩) ?_
     repeat ((first | refine ordC_skip rfl rfl ?_ | refine ordC_skip1 rfl rfl ?_ | ((first | refine ordC_q rfl rfl ?_ | refine ordC_p rfl rfl ?_); apply Exists.intro; refine ⟨fun wS hS => ?_, ?_⟩; (go_simp; try with_reducible rfl))); simp only [Act.put, List.setIfInBounds_toArray, List.set_cons_zero, List.set_cons_succ])
     refine ordC_l rfl rfl (fun K hK => ?_)
     go_simp
     refine hK _ _ ⟨trivial, HEV.out.bh.drew.alloc _, HEV.out.be.drew.alloc _, HEV.out.c5.drew.alloc _, cellA _ (HNA.out _ HEV.out.bw)⟩ ?_
     clear hK K
     refine ordC_l rfl rfl (fun K hK => ?_)
     refine wp_app _ _ 22 rfl i z 16 Tryz.underlying22 HI.out.1 HI.out.2.1 HI.out.2.2.1 HI.out.2.2.2.1 HI.out.2.2.2.2 (v := .slice na 1 nc) rfl ((HEV.out.keep (Below.refl _ _).drew).on.alloc _) (some ⟨Z.heap.size, 0, none⟩) 1 1 2 [xA] rfl (Row.str1 _ xA) HLA.out.1 HLA.out.2.1 HLA.out.2.2 (by have := HEV.out.bw.size; simp; omega) ?_
     intro naA ncA wA hown hg hat
     have hnm := (HEV.out.keep (Below.refl _ _).drew).name (n' := 2) rfl hown hg hat
     have A := hid hnm.2; have HBA := hid hnm.1
     refine hK _ _ ⟨trivial, HBA.out.1, HBA.out.2.1, HBA.out.2.2.1, HNA.out _ HBA.out.2.2.2⟩ ?_
     clear hK K hown hg hat hnm
     have hcb := HBA.out.2.2.1.1; have hfb := HBA.out.2.2.1.2.1; have hlb := HBA.out.2.2.1.2.2
     repeat ((first | refine ordC_skip rfl rfl ?_ | refine ordC_skip1 rfl rfl ?_ | ((first | refine ordC_q rfl rfl ?_ | refine ordC_p rfl rfl ?_); apply Exists.intro; refine ⟨fun wS hS => ?_, ?_⟩; (go_simp; try with_reducible rfl))); simp only [Act.put, List.setIfInBounds_toArray, List.set_cons_zero, List.set_cons_succ])
     refine ordC_m rfl rfl rfl (fun K hK => ?_)
     go_simp
     refine hK _ _ trivial ?_
     clear hK K
     refine ordC_nil ?_
     clear hcb hfb hlb
     generalize wA.setCell ⟨b5, 1, none⟩ (.slice naA 2 ncA) = ZA at A ⊢
     have HVV : Hid (evk = 0 ∨ (0 ≤ evt ∧ evt < tn_)) := hid (by
       by_cases hz : evk = 0
       · exact .inl hz
       · have hv := HHH.out.2
         simp only [verB, if_neg hz, Bool.and_eq_true] at hv
         exact .inr (told_bd hv.1.1))
     have hbe := A.out.be.1; have hle_ := A.out.be.2.2; have hbh := A.out.bh.1; have hlh := A.out.bh.2.2
     go_wp2_with fail
     clear hbe hle_ hbh hlh
     refine (r_told14 ⟨⟨(some ⟨tb, to, none⟩), tn_, tc⟩, ⟨sa, sn_, sc⟩, ⟨(some ⟨xbA, xoA, none⟩), on_, oc⟩, ⟨pa, pn_, pc⟩, hee, hdd, hmm, hww⟩ ⟨evt, evk⟩ tn _ (HRT.out.below A.out.bw rfl) HVV.out).mono ?_
     rintro en X3 ⟨rfl, hb3⟩
     have B := hid (A.out.keep hb3)
     clear hb3
     obtain ⟨tt, htt⟩ : ∃ tt, tt = toldS tn ⟨evt, evk⟩ := ⟨_, rfl⟩
     rw [← htt]
     have HTT := hid htt.symm
     clear htt
     obtain ⟨tnm, tk⟩ := tt
     clear p0 p1 q0 q1 htcap hcapA
     skip
     skip
     have HS : Hid (eventS tn sn on pn ⟨3, (q : Nat), es, el, (qA : Nat), ⟨evt, evk⟩, ep, esa, esn, esc⟩ scan = ⟨3, [x] ++ [xA], 0, [⟨tnm, tk⟩], false, 0⟩) := hid (by simp [eventS, HXN.out, HXNA.out, HTT.out])
     have hb5 := B.out.c5.1; have hf5 := B.out.c5.2.1; have hl5 := B.out.c5.2.2; have hbr := B.out.br.1; have hfr := B.out.br.2.1; have hlr := B.out.br.2.2
     have hne5 : b5 ≠ w.heap.size + 2 := by have := B.out.le; omega
     have hne6 := Ne.symm hne5
     have FIN : Hid (∀ Y, Same (fun i => i ≠ w.heap.size + 2) (X3.setCell ⟨b5, 3, none⟩ (.slice (some ⟨X3.heap.size, 0, none⟩) 1 1)) Y → Y.heap.size = X3.heap.size → RetLn (eventS tn sn on pn ⟨3, (q : Nat), es, el, (qA : Nat), ⟨evt, evk⟩, ep, esa, esn, esc⟩ scan) w (.returned (valLn ⟨3, naA, 2, ncA, 0, some ⟨X3.heap.size, 0, none⟩, 1, 1, false, 0⟩)) (Y.alloc (.cells #[.string ⟨tnm.toArray⟩, .int .i64 tk] 98))) := hid (fun Y hs hz => by rw [HS.out]; exact B.out.oneRet ⟨tnm, tk⟩ hs hz)
     go_wp2_with fail
     refine bodyPost_ret (v := valLn ⟨3, naA, 2, ncA, 0, some ⟨X3.heap.size, 0, none⟩, 1, 1, false, 0⟩) (by simp [results, Tryz.results49, go_sem, hbr, hlr]) rfl (FIN.out _ ?_ (by simp [World.setCell]))
     repeat (first | (with_reducible exact Same.refl' _) | (refine Same.setTail ?_ (by simp)))
   · skip
     have hh : hasB tn_ sn_ on_ pn_ ⟨4, (q : Nat), es, el, eo, ⟨evt, evk⟩, ep, esa, esn, esc⟩ scan = true := by have := HE.out; simp only [evB, Bool.and_eq_true] at this; exact this.1.2
     simp only [hasB, Bool.and_eq_true, List.all_eq_true, decide_eq_true_eq, if_true, show ((4 : Int) = 1) = False from by decide, show ((4 : Int) = 2) = False from by decide, show ((4 : Int) = 3) = False from by decide, reduceIte] at hh
     have HHH := hid hh
     obtain ⟨p0, p1⟩ := told_bd hh.1.1
     obtain ⟨qA, rfl⟩ : ∃ q : Nat, ep = q := ⟨ep.toNat, by omega⟩
     obtain ⟨xA, xbA, xoA, hx, rfl, hxc⟩ := HRP.out.at_ (i := qA) (by omega)
     have hx0 := hxc 0 _ rfl
     simp only [Nat.mul_one, Nat.add_zero] at hx0
     have HXNA := hid (nameOf_at hx)
     have HNA : Hid (∀ X, Below w.heap.size w X → X.cell? ⟨xbA, xoA + qA, none⟩ = some (.string ⟨xA.toArray⟩)) := hid (fun X hX => bget hX rfl hx0)
     have hcapA := HRP.out.cap
     clear hx hxc hx0
     clear hh
     have HLA : Hid (([x] : List Bs).length + 1 = 2 ∧ 2 * 16 ≤ 140737488355328 ∧ 2 ≤ maxLen) := hid ⟨rfl, by decide, by decide⟩
     have hbe := HEV.out.be.1; have hle_ := HEV.out.be.2.2
     go_wp2_with fail
     refine wp_region_ordC 10 [(0, 0), (1, 0), (2, 0), (3, 0), (4, 0), (5, 0), (6, 0), (7, 0), (8, 2), (9, 2), (10, 1), (11, 2)] (fun _ => True) (fun W' => Bx W' w.heap.size #[.slice (some ⟨tb, to, none⟩) tn_ tc, .slice sa sn_ sc, .slice oa on_ oc, .slice (some ⟨xbA, xoA, none⟩) pn_ pc, hee.v, hdd.v, hmm.v, hww.v] ∧ Bx W' (w.heap.size + 1) #[.int .i64 4, .int .i64 (q : Nat), .int .i64 es, .int .i64 el, .int .i64 eo, .int .i64 evt, .int .i64 evk, .int .i64 (qA : Nat), .slice esa esn esc] ∧ Bx W' b5 (cellsLn ⟨4, na, 1, nc, 0, none, 0, 0, false, 0⟩) ∧ W'.cell? ⟨xbA, xoA + qA, none⟩ = some (.string ⟨xA.toArray⟩)) (by kernel_rfl) (by kernel_rfl) (trivial) (⟨HEV.out.bh, HEV.out.be, HEV.out.c5, HNA.out _ HEV.out.bw.drew⟩) ?_
     repeat ((first | refine ordC_skip rfl rfl ?_ | refine ordC_skip1 rfl rfl ?_ | ((first | refine ordC_q rfl rfl ?_ | refine ordC_p rfl rfl ?_); apply Exists.intro; refine ⟨fun wS hS => ?_, ?_⟩; (go_simp; try with_reducible rfl))); simp only [Act.put, List.setIfInBounds_toArray, List.set_cons_zero, List.set_cons_succ])
     refine ordC_l rfl rfl (fun K hK => ?_)
     go_simp
     refine hK _ _ ⟨trivial, HEV.out.bh.drew.alloc _, HEV.out.be.drew.alloc _, HEV.out.c5.drew.alloc _, cellA _ (HNA.out _ HEV.out.bw)⟩ ?_
     clear hK K
     refine ordC_l rfl rfl (fun K hK => ?_)
     refine wp_app _ _ 22 rfl i z 16 Tryz.underlying22 HI.out.1 HI.out.2.1 HI.out.2.2.1 HI.out.2.2.2.1 HI.out.2.2.2.2 (v := .slice na 1 nc) rfl ((HEV.out.keep (Below.refl _ _).drew).on.alloc _) (some ⟨Z.heap.size, 0, none⟩) 1 1 2 [xA] rfl (Row.str1 _ xA) HLA.out.1 HLA.out.2.1 HLA.out.2.2 (by have := HEV.out.bw.size; simp; omega) ?_
     intro naA ncA wA hown hg hat
     have hnm := (HEV.out.keep (Below.refl _ _).drew).name (n' := 2) rfl hown hg hat
     have A := hid hnm.2; have HBA := hid hnm.1
     refine hK _ _ ⟨trivial, HBA.out.1, HBA.out.2.1, HBA.out.2.2.1, HNA.out _ HBA.out.2.2.2⟩ ?_
     clear hK K hown hg hat hnm
     have hcb := HBA.out.2.2.1.1; have hfb := HBA.out.2.2.1.2.1; have hlb := HBA.out.2.2.1.2.2
     repeat ((first | refine ordC_skip rfl rfl ?_ | refine ordC_skip1 rfl rfl ?_ | ((first | refine ordC_q rfl rfl ?_ | refine ordC_p rfl rfl ?_); apply Exists.intro; refine ⟨fun wS hS => ?_, ?_⟩; (go_simp; try with_reducible rfl))); simp only [Act.put, List.setIfInBounds_toArray, List.set_cons_zero, List.set_cons_succ])
     refine ordC_m rfl rfl rfl (fun K hK => ?_)
     go_simp
     refine hK _ _ trivial ?_
     clear hK K
     refine ordC_nil ?_
     clear hcb hfb hlb
     generalize wA.setCell ⟨b5, 1, none⟩ (.slice naA 2 ncA) = ZA at A ⊢
     have hslen := HRC.out.len; have hsle := HRC.out.le
     have hsn : esn ≤ 40 := by have := HHH.out.1.2; omega
     have hbe := A.out.be.1; have hle_ := A.out.be.2.2
     go_wp2_with fail
     clear hbe hle_
     go_loopw [84] (fun i wr => ∃ (j n : Nat) (a : Option Addr) (c : Nat) (va : Option Addr) (vc : Nat), j ≤ esn ∧ i = .int .i64 j ∧ n = j + 2 ∧ EvR #[.slice (some ⟨tb, to, none⟩) tn_ tc, .slice sa sn_ sc, .slice oa on_ oc, .slice (some ⟨xbA, xoA, none⟩) pn_ pc, hee.v, hdd.v, hmm.v, hww.v] #[.int .i64 4, .int .i64 (q : Nat), .int .i64 es, .int .i64 el, .int .i64 eo, .int .i64 evt, .int .i64 evk, .int .i64 (qA : Nat), .slice esa esn esc] w b5 4 a n c ([x] ++ [xA] ++ (scan.take j).map (fun q => nameOf on q.obj)) 0 va j vc ((scan.take j).map (fun q => toldS tn q.v)) wr) (fun i _ => esn - (RowKit.intOf i).toNat)
     case atStart => exact ⟨0, 2, _, _, none, 0, Nat.zero_le _, rfl, rfl, by simpa using A.out⟩
     case round =>
       obtain ⟨j, n, a, c, va, vc, hj, rfl, hn, hev⟩ := hrel
       have R0 := hid hev; have HNJ := hid hn
       clear hev hn
       by_cases hlt : j < esn
       · obtain ⟨sq, sb, so, hsx, rfl, hsc⟩ := (HRC.out.below R0.out.bw rfl).at_ hlt
         have hh4 := HHH.out.2 sq (List.mem_of_getElem? hsx)
         have HSX := hid hsx
         obtain ⟨sob, ⟨svt, svk⟩⟩ := sq
         have s0 := hsc 0 _ rfl
         have s1 := hsc 1 _ rfl
         have s2 := hsc 2 _ rfl
         simp only [Nat.add_zero] at s0
         simp only [seenB, Bool.and_eq_true] at hh4
         have HVV : Hid (svk = 0 ∨ (0 ≤ svt ∧ svt < tn_)) := hid (by
           by_cases hz : svk = 0
           · exact .inl hz
           · have hv := hh4.2
             simp only [verB, if_neg hz, Bool.and_eq_true] at hv
             exact .inr (told_bd hv.1.1))
         have htold := hh4.1
         clear hsc hsx hh4
         obtain ⟨p0, p1⟩ := told_bd htold
         obtain ⟨qB, rfl⟩ : ∃ q : Nat, sob = q := ⟨sob.toNat, by omega⟩
         obtain ⟨xB, xbB, xoB, hx, rfl, hxc⟩ := HRO.out.at_ (i := qB) (by omega)
         have hx0 := hxc 0 _ rfl
         simp only [Nat.mul_one, Nat.add_zero] at hx0
         have HXNB := hid (nameOf_at hx)
         have HNB : Hid (∀ X, Below w.heap.size w X → X.cell? ⟨xbB, xoB + qB, none⟩ = some (.string ⟨xB.toArray⟩)) := hid (fun X hX => bget hX rfl hx0)
         have hcapB := HRO.out.cap
         clear hx hxc hx0
         clear htold
         have hln : ([x] ++ [xA] ++ (scan.take j).map (fun q => nameOf on q.obj)).length = n := by have := HNJ.out; simp only [List.length_append, List.length_map, List.length_take, List.length_cons, List.length_nil]; omega
         have HLB := hid (⟨by rw [hln], by have := HNJ.out; omega, by have := HNJ.out; unfold maxLen; omega⟩ : ([x] ++ [xA] ++ (scan.take j).map (fun q => nameOf on q.obj)).length + 1 = n + 1 ∧ (n + 1) * 16 ≤ 140737488355328 ∧ n + 1 ≤ maxLen)
         have HTL := hid (⟨by simp only [List.length_map, List.length_take]; omega, by omega, by unfold maxLen; omega⟩ : ((scan.take j).map (fun q => toldS tn q.v)).length + 1 = j + 1 ∧ (j + 1) * 24 ≤ 140737488355328 ∧ j + 1 ≤ maxLen)
         have R := hid (R0.out.keep (belowA (Below.refl _ _) (.cells #[.int .i64 (qB : Nat), .int .i64 svt, .int .i64 svk] 69)))
         have HQ := hid (Bx.new wr #[.int .i64 (qB : Nat), .int .i64 svt, .int .i64 svk] 69)
         clear hln
         go_wp2_with fail
         clear s0 s1 s2
         refine wp_region_ordC 10 [(0, 0), (1, 0), (2, 0), (3, 0), (4, 0), (5, 0), (6, 0), (7, 0), (8, 2), (9, 2), (10, 1), (11, 2)] (fun _ => True) (fun W' => Bx W' w.heap.size #[.slice (some ⟨tb, to, none⟩) tn_ tc, .slice sa sn_ sc, .slice (some ⟨xbB, xoB, none⟩) on_ oc, .slice (some ⟨xbA, xoA, none⟩) pn_ pc, hee.v, hdd.v, hmm.v, hww.v] ∧ Bx W' wr.heap.size #[.int .i64 (qB : Nat), .int .i64 svt, .int .i64 svk] ∧ Bx W' b5 (cellsLn ⟨4, a, n, c, 0, va, j, vc, false, 0⟩) ∧ W'.cell? ⟨xbB, xoB + qB, none⟩ = some (.string ⟨xB.toArray⟩)) (by kernel_rfl) (by kernel_rfl) (trivial) (⟨R.out.bh, HQ.out, R.out.c5, HNB.out _ R.out.bw.drew⟩) ?_
         repeat ((first | refine ordC_skip rfl rfl ?_ | refine ordC_skip1 rfl rfl ?_ | ((first | refine ordC_q rfl rfl ?_ | refine ordC_p rfl rfl ?_); apply Exists.intro; refine ⟨fun wS hS => ?_, ?_⟩; (go_simp; try with_reducible rfl))); simp only [Act.put, List.setIfInBounds_toArray, List.set_cons_zero, List.set_cons_succ])
         refine ordC_l rfl rfl (fun K hK => ?_)
         go_simp
         refine hK _ _ ⟨trivial, R.out.bh.drew.alloc _, HQ.out.drew.alloc _, R.out.c5.drew.alloc _, cellA _ (HNB.out _ R.out.bw)⟩ ?_
         clear hK K
         refine ordC_l rfl rfl (fun K hK => ?_)
         refine wp_app _ _ 22 rfl i z 16 Tryz.underlying22 HI.out.1 HI.out.2.1 HI.out.2.2.1 HI.out.2.2.2.1 HI.out.2.2.2.2 (v := .slice a n c) rfl ((R.out.keep (Below.refl _ _).drew).on.alloc _) (some ⟨wr.heap.size + 1, 0, none⟩) 1 1 (n + 1) [xB] rfl (Row.drew (Row.strN (by simp) xB)) HLB.out.1 HLB.out.2.1 HLB.out.2.2 (by have := R.out.bw.size; simp at this ⊢; omega) ?_
         intro na2 nc2 w2 hown hg hat
         have hnm := (R.out.keep (Below.refl _ _).drew).name (n' := n + 1) rfl hown hg hat
         have R2 := hid hnm.2; have HB2 := hid hnm.1
         have HQ2 := hid ((HQ.out.drew.alloc _).grown hg (fun e => by have := (R0.out.on.lt _ e).2; omega))
         refine hK _ _ ⟨trivial, HB2.out.1, HQ2.out, HB2.out.2.2.1, HNB.out _ HB2.out.2.2.2⟩ ?_
         clear hK K hown hg hat hnm
         have hcb := HB2.out.2.2.1.1; have hfb := HB2.out.2.2.1.2.1; have hlb := HB2.out.2.2.1.2.2
         repeat ((first | refine ordC_skip rfl rfl ?_ | refine ordC_skip1 rfl rfl ?_ | ((first | refine ordC_q rfl rfl ?_ | refine ordC_p rfl rfl ?_); apply Exists.intro; refine ⟨fun wS hS => ?_, ?_⟩; (go_simp; try with_reducible rfl))); simp only [Act.put, List.setIfInBounds_toArray, List.set_cons_zero, List.set_cons_succ])
         refine ordC_m rfl rfl rfl (fun K hK => ?_)
         go_simp
         refine hK _ _ trivial ?_
         clear hK K
         refine ordC_nil ?_
         have HQ3 := hid (HQ2.out.other (p := ⟨b5, 1, none⟩) (by show wr.heap.size ≠ b5; have := R0.out.c5.2.2; omega) (.slice na2 (n + 1) nc2))
         clear hcb hfb hlb
         go_wp2_with fail
         refine wp_region_ordC 8 [(0, 0), (1, 0), (2, 0), (3, 0), (4, 0), (5, 2), (6, 2), (7, 2), (8, 1), (9, 2)] (fun _ => True) (fun W' => Bx W' w.heap.size #[.slice (some ⟨tb, to, none⟩) tn_ tc, .slice sa sn_ sc, .slice (some ⟨xbB, xoB, none⟩) on_ oc, .slice (some ⟨xbA, xoA, none⟩) pn_ pc, hee.v, hdd.v, hmm.v, hww.v] ∧ Bx W' wr.heap.size #[.int .i64 (qB : Nat), .int .i64 svt, .int .i64 svk] ∧ Bx W' b5 (cellsLn ⟨4, na2, n + 1, nc2, 0, va, j, vc, false, 0⟩)) (by kernel_rfl) (by kernel_rfl) (trivial) (⟨R2.out.bh, HQ3.out, R2.out.c5⟩) ?_
         repeat ((first | refine ordC_skip rfl rfl ?_ | refine ordC_skip1 rfl rfl ?_ | ((first | refine ordC_q rfl rfl ?_ | refine ordC_p rfl rfl ?_); apply Exists.intro; refine ⟨fun wS hS => ?_, ?_⟩; (go_simp; try with_reducible rfl))); simp only [Act.put, List.setIfInBounds_toArray, List.set_cons_zero, List.set_cons_succ])
         refine ordC_l rfl rfl (fun K hK => ?_)
         go_simp
         refine (r_told14 ⟨⟨(some ⟨tb, to, none⟩), tn_, tc⟩, ⟨sa, sn_, sc⟩, ⟨(some ⟨xbB, xoB, none⟩), on_, oc⟩, ⟨(some ⟨xbA, xoA, none⟩), pn_, pc⟩, hee, hdd, hmm, hww⟩ ⟨svt, svk⟩ tn _ (HRT.out.below R2.out.bw.drew rfl) HVV.out).mono ?_
         rintro en X3 ⟨rfl, hb3⟩
         have R3 := hid (R2.out.keep ((Below.refl _ _).drew.trans hb3)); have HQ4 := hid (HQ3.out.drew.keep hb3)
         refine hK _ _ ⟨trivial, R3.out.bh, HQ4.out, R3.out.c5⟩ ?_
         clear hK K hb3
         refine ordC_l rfl rfl (fun K hK => ?_)
         go_simp
         obtain ⟨tt, htt⟩ : ∃ tt, tt = toldS tn ⟨svt, svk⟩ := ⟨_, rfl⟩
         rw [← htt]
         have HTT := hid htt
         clear htt
         obtain ⟨tnm, tk⟩ := tt
         refine hK _ _ ⟨trivial, R3.out.bh.alloc _, HQ4.out.alloc _, R3.out.c5.alloc _⟩ ?_
         clear hK K
         refine ordC_l rfl rfl (fun K hK => ?_)
         refine wp_app _ _ 39 rfl i2 z2 24 Tryz.underlying39 HI2.out.1 HI2.out.2.1 HI2.out.2.2.1 HI2.out.2.2.2.1 HI2.out.2.2.2.2 (v := .slice va j vc) rfl (R3.out.ov.alloc _) (some ⟨X3.heap.size, 0, none⟩) 1 1 (j + 1) [⟨tnm, tk⟩] rfl (Row.toN rfl ⟨tnm, tk⟩) HTL.out.1 HTL.out.2.1 HTL.out.2.2 (by have := R3.out.bw.size; simp; omega) ?_
         intro va2 vc2 w4 hown hg hat
         have hnm := R3.out.told (s := ⟨tnm, tk⟩) hown hg hat
         have R4 := hid hnm.2; have HB4 := hid hnm.1
         have HQ5 := hid ((HQ4.out.alloc _).grown hg (fun e => by have := (R0.out.ov.lt _ e).2; omega))
         refine hK _ _ ⟨trivial, HB4.out.1, HQ5.out, HB4.out.2.2.1⟩ ?_
         clear hK K hown hg hat hnm
         have hcb := HB4.out.2.2.1.1; have hfb := HB4.out.2.2.1.2.1; have hlb := HB4.out.2.2.1.2.2
         repeat ((first | refine ordC_skip rfl rfl ?_ | refine ordC_skip1 rfl rfl ?_ | ((first | refine ordC_q rfl rfl ?_ | refine ordC_p rfl rfl ?_); apply Exists.intro; refine ⟨fun wS hS => ?_, ?_⟩; (go_simp; try with_reducible rfl))); simp only [Act.put, List.setIfInBounds_toArray, List.set_cons_zero, List.set_cons_succ])
         refine ordC_m rfl rfl rfl (fun K hK => ?_)
         go_simp
         refine hK _ _ trivial ?_
         clear hK K
         refine ordC_nil ?_
         clear hcb hfb hlb
         go_wp2_with fail
         go_roundw
         case rel => exact ⟨j + 1, n + 1, _, _, _, _, by omega, by go_num, by have := HNJ.out; omega, by rw [List.take_add_one, HSX.out, List.map_append, List.map_append, ← List.append_assoc]; simpa [HXNB.out, ← HTT.out] using R4.out⟩
         case measure => simp [RowKit.intOf]; omega
       · obtain rfl : j = esn := by omega
         have HTK : Hid (scan.take j = scan) := hid (List.take_of_length_le (by omega))
         have R9 := hid R0.out
         rw [HTK.out] at R9
         have HS : Hid (eventS tn sn on pn ⟨4, (q : Nat), es, el, eo, ⟨evt, evk⟩, (qA : Nat), esa, j, esc⟩ scan = ⟨4, [x] ++ [xA] ++ scan.map (fun q => nameOf on q.obj), 0, scan.map (fun q => toldS tn q.v), false, 0⟩) := hid (by simp [eventS, HXN.out, HXNA.out])
         have hb5 := R9.out.c5.1; have hf5 := R9.out.c5.2.1; have hl5 := R9.out.c5.2.2; have hbr := R9.out.br.1; have hfr := R9.out.br.2.1; have hlr := R9.out.br.2.2
         have hne5 : b5 ≠ w.heap.size + 2 := by have := R9.out.le; omega
         have hne6 := Ne.symm hne5
         have FIN : Hid (∀ Y, Same (fun i => i ≠ w.heap.size + 2) _ Y → RetLn (eventS tn sn on pn ⟨4, (q : Nat), es, el, eo, ⟨evt, evk⟩, (qA : Nat), esa, j, esc⟩ scan) w (.returned (valLn ⟨4, a, n, c, 0, va, j, vc, false, 0⟩)) Y) := hid (fun Y hs => by rw [HS.out]; exact R9.out.ret hs)
         go_wp2_with fail
         refine bodyPost_ret (v := valLn ⟨4, a, n, c, 0, va, j, vc, false, 0⟩) (by simp [results, Tryz.results49, go_sem, hbr]) rfl (FIN.out _ ?_)
         repeat (first | (with_reducible exact Same.refl' _) | (refine Same.setTail ?_ (by simp)))
   · skip
     clear HRS HRO HRP HRC
     have HS : Hid (eventS tn sn on pn ⟨5, (q : Nat), es, el, eo, ⟨evt, evk⟩, ep, esa, esn, esc⟩ scan = ⟨5, [x], 0, [], false, 0⟩) := hid (by simp [eventS, HXN.out])
     have hb5 := HEV.out.c5.1; have hf5 := HEV.out.c5.2.1; have hl5 := HEV.out.c5.2.2; have hbr := HEV.out.br.1; have hfr := HEV.out.br.2.1; have hlr := HEV.out.br.2.2
     have hne5 : b5 ≠ w.heap.size + 2 := by have := HEV.out.le; omega
     have hne6 := Ne.symm hne5
     have FIN : Hid (∀ Y, Same (fun i => i ≠ w.heap.size + 2) _ Y → RetLn (eventS tn sn on pn ⟨5, (q : Nat), es, el, eo, ⟨evt, evk⟩, ep, esa, esn, esc⟩ scan) w (.returned (valLn ⟨5, na, 1, nc, 0, none, 0, 0, false, 0⟩)) Y) := hid (fun Y hs => by rw [HS.out]; exact HEV.out.ret hs)
     go_wp2_with fail
     refine bodyPost_ret (v := valLn ⟨5, na, 1, nc, 0, none, 0, 0, false, 0⟩) (by simp [results, Tryz.results49, go_sem, hbr]) rfl (FIN.out _ ?_)
     repeat (first | (with_reducible exact Same.refl' _) | (refine Same.setTail ?_ (by simp)))
   · skip
     clear HRS HRO HRP HRC
     have HS : Hid (eventS tn sn on pn ⟨6, (q : Nat), es, el, eo, ⟨evt, evk⟩, ep, esa, esn, esc⟩ scan = ⟨6, [x], 0, [], false, 0⟩) := hid (by simp [eventS, HXN.out])
     have hb5 := HEV.out.c5.1; have hf5 := HEV.out.c5.2.1; have hl5 := HEV.out.c5.2.2; have hbr := HEV.out.br.1; have hfr := HEV.out.br.2.1; have hlr := HEV.out.br.2.2
     have hne5 : b5 ≠ w.heap.size + 2 := by have := HEV.out.le; omega
     have hne6 := Ne.symm hne5
     have FIN : Hid (∀ Y, Same (fun i => i ≠ w.heap.size + 2) _ Y → RetLn (eventS tn sn on pn ⟨6, (q : Nat), es, el, eo, ⟨evt, evk⟩, ep, esa, esn, esc⟩ scan) w (.returned (valLn ⟨6, na, 1, nc, 0, none, 0, 0, false, 0⟩)) Y) := hid (fun Y hs => by rw [HS.out]; exact HEV.out.ret hs)
     go_wp2_with fail
     refine bodyPost_ret (v := valLn ⟨6, na, 1, nc, 0, none, 0, 0, false, 0⟩) (by simp [results, Tryz.results49, go_sem, hbr]) rfl (FIN.out _ ?_)
     repeat (first | (with_reducible exact Same.refl' _) | (refine Same.setTail ?_ (by simp)))
end Yd
