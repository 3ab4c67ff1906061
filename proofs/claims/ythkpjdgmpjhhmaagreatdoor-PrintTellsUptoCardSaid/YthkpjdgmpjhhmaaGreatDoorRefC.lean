import Derived.Test.YthkpjdgmpjhhmaaGreatDoorRefA
import Derived.Test.YthkpjdgmpjhhmaaGreatDoorEqC
import Derived.Test.YthkpjdgmpjhhmaaGreatDoorTellA
import Derived.Test.YthkpjdgmpjhhmaaGreatDoorCount
import Derived.Test.YthkpjdgmpjhhmaaGreatDoorProg
import Derived.Test.YthkpjdgmpjhhmaaGreatDoorRefB
set_option maxRecDepth 200000
set_option maxHeartbeats 8000000
namespace Yd
open Go Go.RowKit Go.Proofs
attribute [local go_sem] Oper.semAt_some

def fstI (xs : List Int) (x : Int) : List Int := if x ∈ xs then xs else xs ++ [x]
def fstV (xs : List Int) (v : Ver) : List Int := if v.k = 0 then xs else fstI xs v.t
theorem Row.int1 (w : World) (s : Int) : Row (w.alloc (.cells #[.int .i64 s] 3)) 1 encInt (some ⟨w.heap.size, 0, none⟩) 1 1 [s] :=
 (Own.new (hc := cInsInt) w w.heap.size 3 (enc := encInt) #[.int .i64 s] [s] (Nat.le_refl _) rfl (by simp [maxLen])).row (hc := cInsInt) (by simp)
def RetF (B : Nat) (v : Value) (ys : List Int) (w : World) (e : Ending) (w' : World) : Prop :=
 ∃ v', e = .returned v' ∧ Own w' B 3 1 encInt v' ys ∧ Same (fun i => some i ≠ v.ownBlock) w w' ∧ (v'.ownBlock = v.ownBlock ∨ ∃ g, w.heap.size ≤ g ∧ v'.ownBlock = some g)
theorem r_At (a : Option Addr) (n c : Nat) (xs : List Int) (x : Int) (w : World) (hr : Row w 1 encInt a n c xs) :
   Calls Tryz.prog 119 #[.slice a n c, .int .i64 x] w fun e w' => ∃ r : Int, Ret (.int .i64 r) w e w' ∧ decide (0 ≤ r) = decide (x ∈ xs) := by
 have hn := hr.le
 have HR := hid hr
 have hcap := hr.cap
 clear hr
 go_enter Tryz.func119, Tryz.ntmps119
 go_wp2_with fail
 go_loopw [9] (fun i wr => ∃ k : Nat, k ≤ n ∧ i = .int .i64 k ∧ x ∉ xs.take k ∧ Below w.heap.size w wr) (fun i _ => n - (RowKit.intOf i).toNat)
 case atStart => exact ⟨0, Nat.zero_le _, rfl, by simp, Below.refl _ _⟩
 case round =>
   obtain ⟨k, hk, rfl, hni, hb⟩ := hrel
   by_cases hlt : k < n
   · obtain ⟨y, b, o, hx, rfl, hc⟩ := HR.out.at_ hlt
     have h0 := bget hb rfl (hc 0 _ rfl)
     simp only [Nat.mul_one, Nat.add_zero] at h0
     have HX := hid hx; have HN := hid hni; have HB := hid hb
     clear hc hx hni hb
     by_cases he : y = x
     · subst he
       go_wp2_with fail
       go_ret
       exact ⟨k, ⟨rfl, HB.out⟩, by rw [decide_eq_true (Int.natCast_nonneg k), decide_eq_true (List.mem_of_getElem? HX.out)]⟩
     · have hne : (y == x) = false := by simpa using he
       have HE := hid he
       clear he
       go_wp2_with fail
       go_roundw
       case rel => exact ⟨k + 1, by omega, by go_num, by rw [List.take_add_one, HX.out]; simp only [Option.toList_some, List.mem_append, List.mem_singleton, not_or]; exact ⟨HN.out, fun e => HE.out e.symm⟩, HB.out⟩
       case measure => simp [RowKit.intOf]; omega
   · obtain rfl : n = k := by omega
     have HN := hid hni; have HB := hid hb
     clear hni hb
     go_wp2_with fail
     go_ret
     exact ⟨-1, ⟨rfl, HB.out⟩, by
       have := HN.out
       rw [List.take_of_length_le (by rw [HR.out.len]; exact Nat.le_refl _)] at this
       rw [decide_eq_false this]; rfl⟩
theorem r_first (B : Nat) (v : Value) (xs : List Int) (x : Int) (w : World) (ho : Own w B 3 1 encInt v xs) (hB : B ≤ w.heap.size) (hl : xs.length ≤ 1000) :
   Calls Tryz.prog 88 #[v, .int .i64 x] w (RetF B v (fstI xs x) w) := by
 obtain ⟨a, c, rfl, _, _⟩ := ho.shape
 have hr := ho.row (hc := cInsInt) (by omega)
 have HA := hid (r_At a xs.length c xs x w hr)
 by_cases hx : x ∈ xs
 · have HF : Hid (fstI xs x = xs) := hid (by simp [fstI, hx])
   have HX := hid hx; have HO := hid ho
   clear hr ho hx
   go_enter Tryz.func88, Tryz.ntmps88
   go_wp2_with fail
   refine HA.out.mono ?_
   rintro e w1 ⟨r, ⟨rfl, hb1⟩, hd⟩
   rw [decide_eq_true HX.out] at hd
   have hr0 : (0 : Int) ≤ r := of_decide_eq_true hd
   have HB1 := hid hb1
   clear hb1 hd
   go_wp2_with fail
   go_ret
   exact ⟨_, rfl, by rw [HF.out]; exact HO.out.below HB1.out rfl, Same.of_below HB1.out (fun _ _ h => h), .inl rfl⟩
 · have HF : Hid (fstI xs x = xs ++ [x]) := hid (by simp [fstI, hx])
   have HX := hid hx; have HO := hid ho
   obtain ⟨i, z, hi, hz, hsize, hby', hzs⟩ := partsInt
   have HI := hid (⟨hi, hz, hsize, hby', hzs⟩ : _ ∧ _ ∧ _ ∧ _ ∧ _)
   obtain ⟨n, hnn⟩ : ∃ n, n = xs.length := ⟨_, rfl⟩
   have HN := hid hnn
   have HN2 : Hid ((xs.length + 1) * 8 ≤ 140737488355328) := hid (by omega)
   have HN3 : Hid (xs.length + 1 ≤ maxLen) := hid (by unfold maxLen; omega)
   have HBB := hid hB
   clear hr ho hx hi hz hsize hby' hzs hnn hl
   go_enter Tryz.func88, Tryz.ntmps88
   go_wp2_with fail
   refine HA.out.mono ?_
   rintro e w1 ⟨r, ⟨rfl, hb1⟩, hd⟩
   rw [decide_eq_false HX.out] at hd
   have hr0 : ¬ (0 : Int) ≤ r := of_decide_eq_false hd
   have HB1 := hid hb1
   have HN4 : Hid (B ≤ (w1.alloc (.cells #[.int .i64 x] 3)).heap.size) := hid (by have := hb1.size; simp; omega)
   have HO1 := hid ((HO.out.below hb1 rfl).alloc (.cells #[.int .i64 x] 3))
   clear hb1 hd hB
   go_wp2_with (at_builtin; refine wpList_app rfl _ _ 70 rfl i z 8 Tryz.underlying70 HI.out.1 HI.out.2.1 HI.out.2.2.1 HI.out.2.2.2.1 HI.out.2.2.2.2 rfl HO1.out (some ⟨w1.heap.size, 0, none⟩) 1 1 (xs.length + 1) [x] rfl (Row.int1 w1 x) rfl HN2.out HN3.out HN4.out ?_; intro a' c' w2 hown1 hg1 hat1)
   go_ret
   refine ⟨_, rfl, by rw [HF.out]; exact hown1, ?_, ?_⟩
   · have s1 : Same (fun i => some i ≠ (Value.slice a xs.length c).ownBlock) w (w1.alloc (.cells #[.int .i64 x] 3)) := (Same.of_below HB1.out (fun _ _ h => h)).trans_ (Same.alloc_ _ _)
     exact s1.trans_ ⟨hg1.os, hg1.tape, hg1.output, hg1.size, fun i hi hl => hg1.block i hl hi⟩
   · rcases hat1 with h1 | h1
     · exact .inl h1
     · exact .inr ⟨_, by have := HB1.out.size; simp; omega, h1⟩
theorem r_made (B : Nat) (v : Value) (xs : List Int) (u : Ver) (w : World) (ho : Own w B 3 1 encInt v xs) (hB : B ≤ w.heap.size) (hl : xs.length ≤ 1000) :
   Calls Tryz.prog 89 #[v, .agg #[.int .i64 u.t, .int .i64 u.k]] w (RetF B v (fstV xs u) w) := by
 obtain ⟨ut, uk⟩ := u
 have hb0 := belowA (Below.refl w.heap.size w) (.cells #[.int .i64 ut, .int .i64 uk] 46)
 by_cases hk : uk = 0
 · subst hk
   have HO := hid ho; have HB := hid hb0
   clear ho hb0
   go_enter Tryz.func89, Tryz.ntmps89
   go_wp2_with fail
   go_ret
   exact ⟨_, rfl, HO.out.below HB.out rfl, Same.of_below HB.out (fun _ _ h => h), .inl rfl⟩
 · have hk' : (uk == 0) = false := by simpa using hk
   have HF := hid (r_first B v xs ut _ (ho.below hb0 rfl) (Nat.le_trans hB hb0.size) hl)
   have HB := hid hb0
   have HV : Hid (fstV xs ⟨ut, uk⟩ = fstI xs ut) := hid (by simp [fstV, hk])
   clear ho hb0 hk hl hB
   go_enter Tryz.func89, Tryz.ntmps89
   go_wp2_with fail
   refine HF.out.mono ?_
   rintro e w1 ⟨v', rfl, h1, h2, h3⟩
   have HQ := hid (⟨h1, h2, h3⟩ : _ ∧ _ ∧ _)
   clear h1 h2 h3
   go_wp2_with fail
   go_ret
   refine ⟨_, rfl, by rw [HV.out]; exact HQ.out.1, (Same.of_below HB.out (fun _ _ h => h)).trans_ HQ.out.2.1, ?_⟩
   rcases HQ.out.2.2 with h | ⟨g, hg, h⟩
   · exact .inl h
   · exact .inr ⟨g, by have := HB.out.size; omega, h⟩
end Yd


namespace Yd
open Go Go.RowKit Go.Proofs

def Fst (xs : List (Int × Int)) (s : Int) : List Int := xs.foldl (fun l x => if x.1 = s then fstI l x.2 else l) []
theorem Fst_snoc (xs : List (Int × Int)) (x : Int × Int) (s : Int) : Fst (xs ++ [x]) s = if x.1 = s then fstI (Fst xs s) x.2 else Fst xs s := by simp [Fst]
theorem fstI_nodup {l : List Int} {x : Int} (h : l.Nodup) : (fstI l x).Nodup := by
 unfold fstI
 split
 · exact h
 · refine List.nodup_append.2 ⟨h, by simp, fun p hp q hq e => ?_⟩
   simp at hq
   subst hq e
   contradiction
theorem Fst_inv {xs : List (Int × Int)} (s : Int) (h : ∀ x ∈ xs, 0 ≤ x.2 ∧ x.2 < 300) : (Fst xs s).Nodup ∧ ∀ n ∈ Fst xs s, 0 ≤ n ∧ n < 300 := by
 have gen : ∀ (ys : List (Int × Int)) (l : List Int), (∀ x ∈ ys, 0 ≤ x.2 ∧ x.2 < 300) → (l.Nodup ∧ ∀ n ∈ l, 0 ≤ n ∧ n < 300) →
     (ys.foldl (fun l x => if x.1 = s then fstI l x.2 else l) l).Nodup ∧ ∀ n ∈ ys.foldl (fun l x => if x.1 = s then fstI l x.2 else l) l, 0 ≤ n ∧ n < 300 := by
   intro ys
   induction ys with
   | nil => intro l _ hl; exact hl
   | cons y ys ih =>
     intro l hy hl
     refine ih _ (fun x hx => hy x (List.mem_cons_of_mem _ hx)) ?_
     dsimp only
     split
     · refine ⟨fstI_nodup hl.1, fun n hn => ?_⟩
       unfold fstI at hn
       split at hn
       · exact hl.2 n hn
       · rcases List.mem_append.1 hn with hn | hn
         · exact hl.2 n hn
         · obtain rfl : n = y.2 := by simpa using hn
           exact hy y (by simp)
     · exact hl
 exact gen xs [] h ⟨List.nodup_nil, by simp⟩
theorem nodup_bound : ∀ (m : Nat) (l : List Int), l.Nodup → (∀ n ∈ l, 0 ≤ n ∧ n < (m : Int)) → l.length ≤ m := by
 intro m
 induction m with
 | zero =>
   intro l _ h
   cases l with
   | nil => exact Nat.le_refl _
   | cons a l => have := h a (by simp); omega
 | succ m ih =>
   intro l hn h
   have h1 := ih (l.erase (m : Int)) (hn.erase _) (fun n hx => by
     have hm := (hn.mem_erase_iff).1 hx
     have := h n hm.2
     have := hm.1
     omega)
   rw [List.length_erase] at h1
   split at h1 <;> omega
theorem Fst_len {xs : List (Int × Int)} (s : Int) (h : ∀ x ∈ xs, 0 ≤ x.2 ∧ x.2 < 300) : (Fst xs s).length ≤ 1000 :=
 Nat.le_trans (nodup_bound 300 _ (Fst_inv s h).1 (Fst_inv s h).2) (by decide)

structure V4 (w : World) (q : Nat) (c : Nat → Value) (pre : List (Int × Int)) (bs : List (Nat × Array Value)) (X : World) : Prop where
 b : Below w.heap.size w X
 Q : Bx X q #[c 0, c 1, c 2, c 3]
 o : ∀ i : Nat, i < 4 → Own X (q + 1) 3 1 encInt (c i) (Fst pre i)
 ap : ∀ i j : Nat, i < 4 → j < 4 → i ≠ j → ∀ g, (c i).ownBlock = some g → (c j).ownBlock ≠ some g
 E : ∀ p ∈ bs, Bx X p.1 p.2 ∧ p.1 ≠ q ∧ ∀ i : Nat, i < 4 → (c i).ownBlock ≠ some p.1
 ok : ∀ x ∈ pre, 0 ≤ x.2 ∧ x.2 < 300
 hq : w.heap.size ≤ q
section
variable {w X w1 : World} {q : Nat} {c : Nat → Value} {pre : List (Int × Int)} {bs : List (Nat × Array Value)}
theorem V4.len (h : V4 w q c pre bs X) (s : Int) : (Fst pre s).length ≤ 1000 := Fst_len s h.ok
theorem V4.base (h : V4 w q c pre bs X) : q + 1 ≤ X.heap.size := h.Q.2.2
theorem V4.notq (h : V4 w q c pre bs X) {i : Nat} (hi : i < 4) : (c i).ownBlock ≠ some q := fun e => by have := ((h.o i hi).lt q e).1; omega
theorem V4.below_ (h : V4 w q c pre bs X) (hb : Below X.heap.size X w1) : V4 w q c pre bs w1 :=
 ⟨h.b.trans (hb.mono h.b.size), h.Q.keep hb, fun i hi => (h.o i hi).below hb rfl, h.ap, fun p hp => ⟨(h.E p hp).1.keep hb, (h.E p hp).2⟩, h.ok, h.hq⟩
theorem V4.alloc (h : V4 w q c pre bs X) (cs : Array Value) (T : TypeId) : V4 w q c pre ((X.heap.size, cs) :: bs) (X.alloc (.cells cs T)) := by
 have h1 := h.below_ (belowA (Below.refl _ _) (.cells cs T))
 refine ⟨h1.b, h1.Q, h1.o, h1.ap, fun p hp => ?_, h1.ok, h1.hq⟩
 rcases List.mem_cons.1 hp with rfl | hp
 · exact ⟨Bx.new X cs T, by have := h.Q.2.2; show X.heap.size ≠ q; omega, fun i hi e => Nat.lt_irrefl _ ((h.o i hi).lt _ e).2⟩
 · exact h1.E p hp
theorem V4.drop {p : Nat × Array Value} (h : V4 w q c pre (p :: bs) X) : V4 w q c pre bs X := ⟨h.b, h.Q, h.o, h.ap, fun p hp => h.E p (List.mem_cons_of_mem _ hp), h.ok, h.hq⟩
theorem V4.box0 {b : Nat} {cs : Array Value} (h : V4 w q c pre ((b, cs) :: bs) X) : Bx X b cs := (h.E (b, cs) (by simp)).1
theorem V4.at_ (h : V4 w q c pre bs X) {i : Nat} (hi : i < 4) : X.cell? ⟨q, i, none⟩ = some (c i) := by
 rw [h.Q.1 i]
 match i, hi with
 | 0, _ => rfl
 | 1, _ => rfl
 | 2, _ => rfl
 | 3, _ => rfl
theorem V4.called (h : V4 w q c pre bs X) {i : Nat} (hi : i < 4) (hs : Same (fun g => some g ≠ (c i).ownBlock) X w1) : Bx w1 q #[c 0, c 1, c 2, c 3] := hs.bx h.Q (fun e => h.notq hi e.symm)
theorem V4.step (h : V4 w q c pre bs X) {i : Nat} (hi : i < 4) {v : Value} {ys : List Int} (ns : List (Int × Int)) (ho : Own w1 (q + 1) 3 1 encInt v ys) (hs : Same (fun g => some g ≠ (c i).ownBlock) X w1)
   (hv : v.ownBlock = (c i).ownBlock ∨ ∃ g, X.heap.size ≤ g ∧ v.ownBlock = some g) (hok : ∀ x ∈ ns, 0 ≤ x.2 ∧ x.2 < 300)
   (hy : ys = Fst (pre ++ ns) i) (hoth : ∀ j : Nat, j < 4 → j ≠ i → Fst (pre ++ ns) j = Fst pre j) : ∃ c', V4 w q c' (pre ++ ns) bs (w1.setCell ⟨q, i, none⟩ v) := by
 have hvg : ∀ g, g < X.heap.size → v.ownBlock = some g → (c i).ownBlock = some g := fun g hg e => by
   rcases hv with h1 | ⟨g', h1, h2⟩
   · rw [← h1]; exact e
   · rw [h2] at e; injection e with e; omega
 have hqw : Same (fun g => g ≠ q) w1 (w1.setCell ⟨q, i, none⟩ v) := (Same.refl' _).setTail (fun hn => hn rfl)
 have hQ := h.called hi hs
 refine ⟨fun j => if j = i then v else c j, ?_, ?_, ?_, ?_, ?_, ?_, h.hq⟩
 · refine hqw.below (hs.below h.b (fun g hg e => ?_) h.b.size) (fun g hg => by have := h.hq; omega) (Nat.le_trans h.b.size hs.size)
   have := ((h.o i hi).lt g e.symm).1
   have := h.hq
   omega
 · have := hQ.setC i (by simpa using hi) v
   refine cast (congrArg (fun z => Bx _ q z) ?_) this
   match i, hi with
   | 0, _ => rfl
   | 1, _ => rfl
   | 2, _ => rfl
   | 3, _ => rfl
 · intro j hj
   by_cases hji : j = i
   · subst hji
     simp only [if_pos]
     rw [← hy]
     exact ho.block fun g hg => hqw.block g (by have := (ho.lt g hg).1; omega) (ho.lt g hg).2
   · simp only [if_neg hji]
     rw [hoth j hj hji]
     refine (h.o j hj).block fun g hg => ?_
     have hl := (h.o j hj).lt g hg
     rw [hqw.block g (by omega) (Nat.lt_of_lt_of_le hl.2 hs.size)]
     exact hs.block g (fun e => h.ap i j hi hj (Ne.symm hji) g e.symm hg) hl.2
 · intro j k hj hk hjk g e1 e2
   by_cases hji : j = i
   · subst hji
     simp only [if_pos] at e1
     rw [if_neg (Ne.symm hjk)] at e2
     exact h.ap k j hk hj (Ne.symm hjk) g e2 (hvg g ((h.o k hk).lt g e2).2 e1)
   · rw [if_neg hji] at e1
     by_cases hki : k = i
     · subst hki
       simp only [if_pos] at e2
       exact h.ap j k hj hk hjk g e1 (hvg g ((h.o j hj).lt g e1).2 e2)
     · rw [if_neg hki] at e2
       exact h.ap j k hj hk hjk g e1 e2
 · intro p hp
   obtain ⟨h1, h2, h3⟩ := h.E p hp
   refine ⟨hqw.bx (hs.bx h1 (fun e => h3 i hi e.symm)) h2, h2, fun j hj e => ?_⟩
   by_cases hji : j = i
   · subst hji
     simp only [if_pos] at e
     exact h3 j hj (hvg _ h1.2.2 e)
   · rw [if_neg hji] at e
     exact h3 j hj e
 · intro x hx
   rcases List.mem_append.1 hx with hx | hx
   · exact h.ok x hx
   · exact hok x hx
theorem one_hy (pre : List (Int × Int)) (i : Nat) (n : Int) : fstI (Fst pre i) n = Fst (pre ++ [((i : Int), n)]) i := by rw [Fst_snoc]; simp
theorem one_hoth (pre : List (Int × Int)) (i : Nat) (n : Int) : ∀ j : Nat, j < 4 → j ≠ i → Fst (pre ++ [((i : Int), n)]) j = Fst pre j := fun j _ hj => by rw [Fst_snoc, if_neg (by simp; omega)]
theorem ver_hy {v : Ver} (pre : List (Int × Int)) (hk : 0 ≤ v.k) : fstV (Fst pre (0 : Nat)) v = Fst (pre ++ verN v) (0 : Nat) := by
 unfold fstV verN
 by_cases h : v.k = 0
 · rw [if_pos h, if_neg (by omega), List.append_nil]
 · rw [if_neg h, if_pos (by omega), Fst_snoc]; simp
theorem ver_hoth {v : Ver} (pre : List (Int × Int)) : ∀ j : Nat, j < 4 → j ≠ 0 → Fst (pre ++ verN v) j = Fst pre j := fun j _ hj => by
 unfold verN
 split
 · rw [Fst_snoc, if_neg (by simp; omega)]
 · rw [List.append_nil]
end
theorem verB_nn {v : Ver} {nt : Nat} (h : verB v nt = true) : 0 ≤ v.k := by
 unfold verB at h
 split at h
 · omega
 · simp only [Bool.and_eq_true, decide_eq_true_eq] at h; omega
theorem ev_says {nt ns no np : Nat} {e : EvC} {scan : List Sn} (h : evB nt ns no np e scan = true) : ((e.kind = 2 ∨ e.kind = 3) → 0 ≤ e.v.k) ∧ ∀ s ∈ scan, 0 ≤ s.v.k := by
 simp only [evB, Bool.and_eq_true] at h
 obtain ⟨⟨⟨⟨_, _⟩, ht⟩, hh⟩, hb⟩ := h
 refine ⟨fun k23 => ?_, fun s hs => ?_⟩
 · unfold hasB at hh
   rw [if_neg (by omega)] at hh
   rcases k23 with k2 | k3
   · rw [if_pos k2] at hh; simp only [Bool.and_eq_true] at hh; exact verB_nn hh.1.1.2
   · rw [if_neg (by omega), if_pos k3] at hh; simp only [Bool.and_eq_true] at hh; exact verB_nn hh.2
 · by_cases k4 : e.kind = 4
   · simp [hasB, k4] at hh
     obtain ⟨⟨_, _⟩, ha⟩ := hh
     have := ha s hs
     simp only [seenB, Bool.and_eq_true] at this
     exact verB_nn this.2
   · have hn : scan = [] := by
       unfold bareB at hb
       rw [if_neg k4] at hb
       split at hb
       · simpa using (by simp only [Bool.and_eq_true, decide_eq_true_eq] at hb; exact hb.2)
       · split at hb <;> (simp only [Bool.and_eq_true, decide_eq_true_eq] at hb; exact hb.2)
     rw [hn] at hs; cases hs
end Yd


namespace Yd
open Go Go.RowKit Go.Proofs
attribute [local go_sem] Oper.semAt_some

theorem evN_scan {e : EvC} {scan : List Sn} {s : Sn} {p : Int × Int} (hs : s ∈ scan) (hp : p ∈ (2, s.obj) :: verN s.v) : p ∈ evN e scan := by
 unfold evN
 exact List.mem_append_right _ (List.mem_flatMap.2 ⟨s, hs, hp⟩)
theorem take_flat {α β : Type} {xs : List α} {k : Nat} {x : α} (f : α → List β) (hx : xs[k]? = some x) : (xs.take (k + 1)).flatMap f = (xs.take k).flatMap f ++ f x := by
 rw [List.take_add_one, hx]; simp
theorem take_map {α β : Type} {xs : List α} {k : Nat} {x : α} (f : α → β) (hx : xs[k]? = some x) : (xs.take (k + 1)).map f = (xs.take k).map f ++ [f x] := by
 rw [List.take_add_one, hx]; simp
theorem all_take {α : Type} {xs : List α} {n : Nat} (h : xs.length = n) : xs.take n = xs := List.take_of_length_le (by omega)
theorem V4.bx {w X : World} {q : Nat} {c : Nat → Value} {pre : List (Int × Int)} {bs : List (Nat × Array Value)} (h : V4 w q c pre bs X) (b : Nat) (cs : Array Value) (hm : (b, cs) ∈ bs) : Bx X b cs := (h.E (b, cs) hm).1
theorem Own.shp {α : Type} {w : World} {B : Nat} {E : TypeId} {k : Nat} {enc : α → List Value} {v : Value} {xs : List α} (h : Own w B E k enc v xs) : ∃ a n c, v = .slice a n c := by
 obtain ⟨a, c, e, _, _⟩ := h.shape
 exact ⟨a, _, c, e⟩
def RetS (xs : List (Int × Int)) (w : World) (e : Ending) (w' : World) : Prop :=
 ∃ c : Nat → Value, e = .returned (.agg #[c 0, c 1, c 2, c 3]) ∧ (∀ i : Nat, i < 4 → ∃ a n cc, c i = .slice a n cc ∧ Row w' 1 encInt a n cc (Fst xs i)) ∧ Below w.heap.size w w'
theorem r_Spoken (h : HC) (nl : Nat → List Bs) (es : List EvC) (ds : List OrC) (ms : List MaC) (qs : List Wa) (scan : EvC → List Sn) (dn : OrC → List Int) (mn : MaC → List Int) (w : World)
   (hn : ∀ i, i < 4 → Row w 1 encStr (h.nm i).a (h.nm i).n (h.nm i).c (nl i)) (hd : Deep w h es ds ms qs scan dn mn) (hs : shapedB h nl es ds ms qs scan dn mn = true) :
   Calls Tryz.prog 48 #[valH h] w (RetS (spokenL es ds ms qs scan dn mn) w) := by
 have hall := spoken_ok hs (fun i hi => (hn i hi).len)
 have HOE : Hid (∀ x ∈ es, ∀ p ∈ evN x (scan x), 0 ≤ p.2 ∧ p.2 < 300) := hid (fun x hx p hp => (hall p (by simp only [spokenL, List.mem_append, List.mem_flatMap]; exact .inl (.inl (.inl ⟨x, hx, hp⟩)))).2)
 have HOD : Hid (∀ x ∈ ds, ∀ p ∈ ordN x (dn x), 0 ≤ p.2 ∧ p.2 < 300) := hid (fun x hx p hp => (hall p (by simp only [spokenL, List.mem_append, List.mem_flatMap]; exact .inl (.inl (.inr ⟨x, hx, hp⟩)))).2)
 have HOM : Hid (∀ x ∈ ms, ∀ p ∈ matN x (mn x), 0 ≤ p.2 ∧ p.2 < 300) := hid (fun x hx p hp => (hall p (by simp only [spokenL, List.mem_append, List.mem_flatMap]; exact .inl (.inr ⟨x, hx, hp⟩))).2)
 have HOW : Hid (∀ x ∈ qs, ∀ p ∈ wantN x, 0 ≤ p.2 ∧ p.2 < 300) := hid (fun x hx p hp => (hall p (by simp only [spokenL, List.mem_append, List.mem_flatMap]; exact .inr ⟨x, hx, hp⟩)).2)
 have HSH : Hid (∀ x ∈ es, evB h.t.n h.s.n h.o.n h.p.n x (scan x) = true) := hid (by
   simp only [shapedB, namesB, Bool.and_eq_true, List.all_eq_true, List.mem_range] at hs
   exact hs.1.1.1.2)
 have HD := hid hd
 have hle := hd.1.le; have hld := hd.2.1.le; have hlm := hd.2.2.1.le; have hlw := hd.2.2.2.1.le
 clear hn hd hs hall
 obtain ⟨ht, hs, ho, hp, ⟨ea, en, ec⟩, ⟨da, dn_, dc⟩, ⟨ma, mn_, mc⟩, ⟨wa, wn, wc⟩⟩ := h
 simp only at hle hld hlm hlw

 have hx0 : Bx (((w.alloc (.cells #[ht.v, hs.v, ho.v, hp.v, .slice ea en ec, .slice da dn_ dc, .slice ma mn_ mc, .slice wa wn wc] 28)).alloc (.cells #[.slice none 0 0, .slice none 0 0, .slice none 0 0, .slice none 0 0] 108)).alloc (.cells #[.slice none 0 0, .slice none 0 0, .slice none 0 0, .slice none 0 0] 108)) w.heap.size #[ht.v, hs.v, ho.v, hp.v, .slice ea en ec, .slice da dn_ dc, .slice ma mn_ mc, .slice wa wn wc] := ((Bx.new w _ _).alloc _).alloc _
 have hx1 : Bx (((w.alloc (.cells #[ht.v, hs.v, ho.v, hp.v, .slice ea en ec, .slice da dn_ dc, .slice ma mn_ mc, .slice wa wn wc] 28)).alloc (.cells #[.slice none 0 0, .slice none 0 0, .slice none 0 0, .slice none 0 0] 108)).alloc (.cells #[.slice none 0 0, .slice none 0 0, .slice none 0 0, .slice none 0 0] 108)) (w.heap.size + 1) #[.slice none 0 0, .slice none 0 0, .slice none 0 0, .slice none 0 0] := (Bx.new1 (by simp)).alloc _
 have hx2 : Bx (((w.alloc (.cells #[ht.v, hs.v, ho.v, hp.v, .slice ea en ec, .slice da dn_ dc, .slice ma mn_ mc, .slice wa wn wc] 28)).alloc (.cells #[.slice none 0 0, .slice none 0 0, .slice none 0 0, .slice none 0 0] 108)).alloc (.cells #[.slice none 0 0, .slice none 0 0, .slice none 0 0, .slice none 0 0] 108)) (w.heap.size + 2) #[.slice none 0 0, .slice none 0 0, .slice none 0 0, .slice none 0 0] := Bx.new1 (by simp)
 have hE0 : ∀ p ∈ ([(w.heap.size, #[ht.v, hs.v, ho.v, hp.v, .slice ea en ec, .slice da dn_ dc, .slice ma mn_ mc, .slice wa wn wc]), (w.heap.size + 1, #[.slice none 0 0, .slice none 0 0, .slice none 0 0, .slice none 0 0])] : List (Nat × Array Value)), Bx (((w.alloc (.cells #[ht.v, hs.v, ho.v, hp.v, .slice ea en ec, .slice da dn_ dc, .slice ma mn_ mc, .slice wa wn wc] 28)).alloc (.cells #[.slice none 0 0, .slice none 0 0, .slice none 0 0, .slice none 0 0] 108)).alloc (.cells #[.slice none 0 0, .slice none 0 0, .slice none 0 0, .slice none 0 0] 108)) p.1 p.2 ∧ p.1 ≠ (w.heap.size + 2) ∧ ∀ i : Nat, i < 4 → (Value.slice none 0 0).ownBlock ≠ some p.1 := by
   intro p hp
   simp only [List.mem_cons, List.not_mem_nil, or_false] at hp
   rcases hp with rfl | rfl
   · exact ⟨hx0, by simp, fun i _ e => by cases e⟩
   · exact ⟨hx1, by simp, fun i _ e => by cases e⟩
 have HS0 : Hid (V4 w (w.heap.size + 2) (fun _ => .slice none 0 0) [] [(w.heap.size, #[ht.v, hs.v, ho.v, hp.v, .slice ea en ec, .slice da dn_ dc, .slice ma mn_ mc, .slice wa wn wc]), (w.heap.size + 1, #[.slice none 0 0, .slice none 0 0, .slice none 0 0, .slice none 0 0])] (((w.alloc (.cells #[ht.v, hs.v, ho.v, hp.v, .slice ea en ec, .slice da dn_ dc, .slice ma mn_ mc, .slice wa wn wc] 28)).alloc (.cells #[.slice none 0 0, .slice none 0 0, .slice none 0 0, .slice none 0 0] 108)).alloc (.cells #[.slice none 0 0, .slice none 0 0, .slice none 0 0, .slice none 0 0] 108))) :=
   hid ⟨belowA (belowA (belowA (Below.refl w.heap.size w) _) _) _, hx2, fun i hi => Own.nil_ _ _ _ _ _, (fun i j _ _ _ g e => by cases e), hE0, (fun x hx => by simp at hx), by simp⟩
 clear hE0
 clear hx0 hx1 hx2
 go_enter Tryz.func48, Tryz.ntmps48
 have hbx := HS0.out.bx w.heap.size #[ht.v, hs.v, ho.v, hp.v, .slice ea en ec, .slice da dn_ dc, .slice ma mn_ mc, .slice wa wn wc] (by simp)
 have hbh := hbx.1; have hlh := hbx.2.2
 clear hbx
 go_wp2_with fail
 rw [show w.heap.size + 1 + 1 = w.heap.size + 2 from rfl]
 clear hbh hlh
 go_loopw [21] (fun i wr => ∃ (k : Nat) (c : Nat → Value), k ≤ en ∧ i = .int .i64 k ∧ V4 w (w.heap.size + 2) c ((es.take k).flatMap (fun e => evN e (scan e))) [(w.heap.size, #[ht.v, hs.v, ho.v, hp.v, .slice ea en ec, .slice da dn_ dc, .slice ma mn_ mc, .slice wa wn wc]), (w.heap.size + 1, #[.slice none 0 0, .slice none 0 0, .slice none 0 0, .slice none 0 0])] wr) (fun i _ => en - (RowKit.intOf i).toNat)
 case atStart => exact ⟨0, _, Nat.zero_le _, rfl, by simpa using HS0.out⟩
 case round =>
   obtain ⟨k, c, hk, rfl, hsk⟩ := hrel
   have HS1 := hid hsk
   clear hsk
   by_cases hlt : k < en
   · obtain ⟨x, b, o, hx, rfl, hc⟩ := (HD.out.1.below HS1.out.b rfl).at_ hlt
     have hmem := List.mem_of_getElem? hx
     have e0 := hc 0 _ rfl
     have e1 := hc 1 _ rfl
     have e2 := hc 2 _ rfl
     have e3 := hc 3 _ rfl
     have e4 := hc 4 _ rfl
     have e5 := hc 5 _ rfl
     have e6 := hc 6 _ rfl
     have e7 := hc 7 _ rfl
     have e8 := hc 8 _ rfl
     simp only [Nat.add_zero] at e0
     have HRS := hid (HD.out.2.2.2.2.1 x hmem); have HEV := hid (HOE.out x hmem); have HKV := hid (ev_says (HSH.out x hmem)); have HPRE := hid (take_flat (fun e => evN e (scan e)) hx)
     obtain ⟨sx, hsx⟩ : ∃ sx, sx = scan x := ⟨_, rfl⟩
     simp only [← hsx] at HRS HEV HKV HPRE
     clear hsx hc hx hmem
     obtain ⟨xk, xt, xses, xl, xo, ⟨vt, vk⟩, xp, sa, sn, sc⟩ := x
     simp only at e0 e1 e2 e3 e4 e5 e6 e7 e8
     have HSO : Hid (∀ s ∈ sx, ∀ p ∈ ((2 : Int), s.obj) :: verN s.v, 0 ≤ p.2 ∧ p.2 < 300) := hid (fun s hs p hp => HEV.out p (evN_scan hs hp))
     have HE := hid (HS1.out.alloc #[.int .i64 xk, .int .i64 xt, .int .i64 xses, .int .i64 xl, .int .i64 xo, .int .i64 vt, .int .i64 vk, .int .i64 xp, .slice sa sn sc] 49)
     by_cases hk1 : xk = 1
     · skip
       subst hk1
       have HPN : Hid (evN ⟨1, xt, xses, xl, xo, ⟨vt, vk⟩, xp, sa, sn, sc⟩ sx = [((0 : Int), xt)] ++ [((1 : Int), xses)] ++ sx.flatMap (fun s : Sn => ((2 : Int), s.obj) :: verN s.v)) := hid (by simp [evN])
       have hq2 := HE.out.Q.1; have hlq2 := HE.out.Q.2.2
       have hb2 := HE.out.box0.1; have hlb2 := HE.out.box0.2.2
       go_wp2_with fail
       refine (r_first ((w.heap.size + 2) + 1) (c 0) (Fst ((es.take k).flatMap (fun e => evN e (scan e))) (0 : Nat)) xt _ (HE.out.o 0 (by decide)) HE.out.base (HE.out.len _)).mono ?_
       rintro e w2 ⟨v2, rfl, h1, h2, h3⟩
       obtain ⟨a2, l2, k2, rfl⟩ := h1.shp
       obtain ⟨c2, hs2⟩ := HE.out.step (i := 0) (by decide) [((0 : Int), xt)] h1 h2 h3 (fun p hp => HEV.out p (by rw [HPN.out]; simp only [List.mem_append, List.mem_singleton] at hp ⊢; simp [hp])) (one_hy _ 0 _) (one_hoth _ 0 _)
       have hcl := HE.out.called (i := 0) (by decide) h2
       have HS2 := hid hs2
       clear h1 h2 h3 hs2 e0 e1 e2 e3 e4 e5 e6 e7 e8 hq2 hlq2 hb2 hlb2
       have hcq2 := hcl.1; have hfq2 := hcl.2.1; have hlc2 := hcl.2.2
       clear hcl
       have hq3 := HS2.out.Q.1; have hlq3 := HS2.out.Q.2.2
       have hb3 := HS2.out.box0.1; have hlb3 := HS2.out.box0.2.2
       go_wp2_with fail
       refine (r_first ((w.heap.size + 2) + 1) (c2 1) (Fst ((es.take k).flatMap (fun e => evN e (scan e)) ++ [((0 : Int), xt)]) (1 : Nat)) xses _ (HS2.out.o 1 (by decide)) HS2.out.base (HS2.out.len _)).mono ?_
       rintro e w3 ⟨v3, rfl, h1, h2, h3⟩
       obtain ⟨a3, l3, k3, rfl⟩ := h1.shp
       obtain ⟨c3, hs3⟩ := HS2.out.step (i := 1) (by decide) [((1 : Int), xses)] h1 h2 h3 (fun p hp => HEV.out p (by rw [HPN.out]; simp only [List.mem_append, List.mem_singleton] at hp ⊢; simp [hp])) (one_hy _ 1 _) (one_hoth _ 1 _)
       have hcl := HS2.out.called (i := 1) (by decide) h2
       have HS3 := hid hs3
       clear h1 h2 h3 hs3 hcq2 hfq2 hlc2 hq3 hlq3 hb3 hlb3
       have hcq3 := hcl.1; have hfq3 := hcl.2.1; have hlc3 := hcl.2.2
       clear hcl
       have hq4 := HS3.out.Q.1; have hlq4 := HS3.out.Q.2.2; have hb4 := HS3.out.box0.1; have hlb4 := HS3.out.box0.2.2
       go_wp2_with fail
       clear hq4 hlq4 hb4 hlb4 hcq3 hfq3 hlc3
       go_loopw [67] (fun i wv => ∃ (j : Nat) (c : Nat → Value), j ≤ sn ∧ i = .int .i64 j ∧ V4 w (w.heap.size + 2) c ((es.take k).flatMap (fun e => evN e (scan e)) ++ [((0 : Int), xt)] ++ [((1 : Int), xses)] ++ (sx.take j).flatMap (fun s : Sn => ((2 : Int), s.obj) :: verN s.v)) ((wr.heap.size, #[.int .i64 1, .int .i64 xt, .int .i64 xses, .int .i64 xl, .int .i64 xo, .int .i64 vt, .int .i64 vk, .int .i64 xp, .slice sa sn sc]) :: [(w.heap.size, #[ht.v, hs.v, ho.v, hp.v, .slice (some ⟨b, o, none⟩) en ec, .slice da dn_ dc, .slice ma mn_ mc, .slice wa wn wc]), (w.heap.size + 1, #[.slice none 0 0, .slice none 0 0, .slice none 0 0, .slice none 0 0])]) wv) (fun i _ => sn - (RowKit.intOf i).toNat)
       case atStart => exact ⟨0, _, Nat.zero_le _, rfl, by simpa using HS3.out⟩
       case round =>
         skip
         have hns := HRS.out.le
         obtain ⟨j, cj, hj, rfl, hsj⟩ := hrel
         have HS4 := hid hsj
         clear hsj
         by_cases hlj : j < sn
         · obtain ⟨s, b2, o2, hsx, rfl, hcs⟩ := (HRS.out.below HS4.out.b rfl).at_ hlj
           have hsm := List.mem_of_getElem? hsx
           have f0 := hcs 0 _ rfl; have f1 := hcs 1 _ rfl; have f2 := hcs 2 _ rfl
           simp only [Nat.add_zero] at f0
           have HKS := hid (HKV.out.2 s hsm); have HOS := hid (HSO.out s hsm); have HPJ := hid (take_flat (fun s : Sn => ((2 : Int), s.obj) :: verN s.v) hsx)
           clear hcs hsx hsm
           have HB := hid (HS4.out.alloc #[.int .i64 s.obj, .int .i64 s.v.t, .int .i64 s.v.k] 69)
           have hq5 := HB.out.Q.1; have hlq5 := HB.out.Q.2.2
           have hb5 := HB.out.box0.1; have hlb5 := HB.out.box0.2.2
           go_wp2_with fail
           refine (r_first ((w.heap.size + 2) + 1) (cj 2) (Fst ((es.take k).flatMap (fun e => evN e (scan e)) ++ [((0 : Int), xt)] ++ [((1 : Int), xses)] ++ (sx.take j).flatMap (fun s : Sn => ((2 : Int), s.obj) :: verN s.v)) (2 : Nat)) s.obj _ (HB.out.o 2 (by decide)) HB.out.base (HB.out.len _)).mono ?_
           rintro e w5 ⟨v5, rfl, h1, h2, h3⟩
           obtain ⟨a5, l5, k5, rfl⟩ := h1.shp
           obtain ⟨c5, hs5⟩ := HB.out.step (i := 2) (by decide) [((2 : Int), s.obj)] h1 h2 h3 (fun p hp => HOS.out p (by simp only [List.mem_singleton] at hp; simp [hp])) (one_hy _ 2 _) (one_hoth _ 2 _)
           have hcl := HB.out.called (i := 2) (by decide) h2
           have HS5 := hid hs5
           clear h1 h2 h3 hs5 f0 f1 f2 hq5 hlq5 hb5 hlb5
           have hcq5 := hcl.1; have hfq5 := hcl.2.1; have hlc5 := hcl.2.2
           clear hcl
           have hq6 := HS5.out.Q.1; have hlq6 := HS5.out.Q.2.2
           have hb6 := HS5.out.box0.1; have hlb6 := HS5.out.box0.2.2
           go_wp2_with fail
           refine (r_made ((w.heap.size + 2) + 1) (c5 0) (Fst ((es.take k).flatMap (fun e => evN e (scan e)) ++ [((0 : Int), xt)] ++ [((1 : Int), xses)] ++ (sx.take j).flatMap (fun s : Sn => ((2 : Int), s.obj) :: verN s.v) ++ [((2 : Int), s.obj)]) (0 : Nat)) s.v _ (HS5.out.o 0 (by decide)) HS5.out.base (HS5.out.len _)).mono ?_
           rintro e w6 ⟨v6, rfl, h1, h2, h3⟩
           obtain ⟨a6, l6, k6, rfl⟩ := h1.shp
           obtain ⟨c6, hs6⟩ := HS5.out.step (i := 0) (by decide) (verN s.v) h1 h2 h3 (fun p hp => HOS.out p (by simp [hp])) (ver_hy _ HKS.out) (ver_hoth _)
           have hcl := HS5.out.called (i := 0) (by decide) h2
           have HS6 := hid hs6
           clear h1 h2 h3 hs6 hcq5 hfq5 hlc5 hq6 hlq6 hb6 hlb6
           have hcq6 := hcl.1; have hfq6 := hcl.2.1; have hlc6 := hcl.2.2
           clear hcl
           go_wp2_with fail
           go_roundw
           case rel => exact ⟨j + 1, _, by omega, by go_num, by rw [HPJ.out]; simpa only [List.append_assoc, List.cons_append, List.nil_append] using HS6.out.drop⟩
           case measure => simp [RowKit.intOf]; omega
         · obtain rfl : sn = j := by omega
           have HF4 := hid (show V4 w (w.heap.size + 2) cj ((es.take k).flatMap (fun e => evN e (scan e)) ++ [((0 : Int), xt)] ++ [((1 : Int), xses)] ++ sx.flatMap (fun s : Sn => ((2 : Int), s.obj) :: verN s.v)) _ _ from by have := HS4.out; rwa [all_take (HRS.out.len)] at this)
           have hq4 := HF4.out.Q.1; have hlq4 := HF4.out.Q.2.2; have hb4 := HF4.out.box0.1; have hlb4 := HF4.out.box0.2.2
           go_wp2_with fail
           go_roundw
           case rel => exact ⟨k + 1, _, by omega, by go_num, by rw [HPRE.out, HPN.out]; simpa only [List.append_assoc, List.cons_append, List.nil_append] using HF4.out.drop⟩
           case measure => simp [RowKit.intOf]; omega
     by_cases hk2 : xk = 2
     · clear hk1
       subst hk2
       have HPN : Hid (evN ⟨2, xt, xses, xl, xo, ⟨vt, vk⟩, xp, sa, sn, sc⟩ sx = [((0 : Int), xt)] ++ [((2 : Int), xo)] ++ verN ⟨vt, vk⟩ ++ sx.flatMap (fun s : Sn => ((2 : Int), s.obj) :: verN s.v)) := hid (by simp [evN])
       have hq7 := HE.out.Q.1; have hlq7 := HE.out.Q.2.2
       have hb7 := HE.out.box0.1; have hlb7 := HE.out.box0.2.2
       go_wp2_with fail
       refine (r_first ((w.heap.size + 2) + 1) (c 0) (Fst ((es.take k).flatMap (fun e => evN e (scan e))) (0 : Nat)) xt _ (HE.out.o 0 (by decide)) HE.out.base (HE.out.len _)).mono ?_
       rintro e w7 ⟨v7, rfl, h1, h2, h3⟩
       obtain ⟨a7, l7, k7, rfl⟩ := h1.shp
       obtain ⟨c7, hs7⟩ := HE.out.step (i := 0) (by decide) [((0 : Int), xt)] h1 h2 h3 (fun p hp => HEV.out p (by rw [HPN.out]; simp only [List.mem_append, List.mem_singleton] at hp ⊢; simp [hp])) (one_hy _ 0 _) (one_hoth _ 0 _)
       have hcl := HE.out.called (i := 0) (by decide) h2
       have HS7 := hid hs7
       clear h1 h2 h3 hs7 e0 e1 e2 e3 e4 e5 e6 e7 e8 hq7 hlq7 hb7 hlb7
       have hcq7 := hcl.1; have hfq7 := hcl.2.1; have hlc7 := hcl.2.2
       clear hcl
       have hq8 := HS7.out.Q.1; have hlq8 := HS7.out.Q.2.2
       have hb8 := HS7.out.box0.1; have hlb8 := HS7.out.box0.2.2
       go_wp2_with fail
       refine (r_first ((w.heap.size + 2) + 1) (c7 2) (Fst ((es.take k).flatMap (fun e => evN e (scan e)) ++ [((0 : Int), xt)]) (2 : Nat)) xo _ (HS7.out.o 2 (by decide)) HS7.out.base (HS7.out.len _)).mono ?_
       rintro e w8 ⟨v8, rfl, h1, h2, h3⟩
       obtain ⟨a8, l8, k8, rfl⟩ := h1.shp
       obtain ⟨c8, hs8⟩ := HS7.out.step (i := 2) (by decide) [((2 : Int), xo)] h1 h2 h3 (fun p hp => HEV.out p (by rw [HPN.out]; simp only [List.mem_append, List.mem_singleton] at hp ⊢; simp [hp])) (one_hy _ 2 _) (one_hoth _ 2 _)
       have hcl := HS7.out.called (i := 2) (by decide) h2
       have HS8 := hid hs8
       clear h1 h2 h3 hs8 hcq7 hfq7 hlc7 hq8 hlq8 hb8 hlb8
       have hcq8 := hcl.1; have hfq8 := hcl.2.1; have hlc8 := hcl.2.2
       clear hcl
       have hq9 := HS8.out.Q.1; have hlq9 := HS8.out.Q.2.2
       have hb9 := HS8.out.box0.1; have hlb9 := HS8.out.box0.2.2
       go_wp2_with fail
       refine (r_made ((w.heap.size + 2) + 1) (c8 0) (Fst ((es.take k).flatMap (fun e => evN e (scan e)) ++ [((0 : Int), xt)] ++ [((2 : Int), xo)]) (0 : Nat)) ⟨vt, vk⟩ _ (HS8.out.o 0 (by decide)) HS8.out.base (HS8.out.len _)).mono ?_
       rintro e w9 ⟨v9, rfl, h1, h2, h3⟩
       obtain ⟨a9, l9, k9, rfl⟩ := h1.shp
       obtain ⟨c9, hs9⟩ := HS8.out.step (i := 0) (by decide) (verN ⟨vt, vk⟩) h1 h2 h3 (fun p hp => HEV.out p (by rw [HPN.out]; simp only [List.mem_append, List.mem_singleton] at hp ⊢; simp [hp])) (ver_hy _ (HKV.out.1 (by simp))) (ver_hoth _)
       have hcl := HS8.out.called (i := 0) (by decide) h2
       have HS9 := hid hs9
       clear h1 h2 h3 hs9 hcq8 hfq8 hlc8 hq9 hlq9 hb9 hlb9
       have hcq9 := hcl.1; have hfq9 := hcl.2.1; have hlc9 := hcl.2.2
       clear hcl
       have hq10 := HS9.out.Q.1; have hlq10 := HS9.out.Q.2.2; have hb10 := HS9.out.box0.1; have hlb10 := HS9.out.box0.2.2
       go_wp2_with fail
       clear hq10 hlq10 hb10 hlb10 hcq9 hfq9 hlc9
       go_loopw [67] (fun i wv => ∃ (j : Nat) (c : Nat → Value), j ≤ sn ∧ i = .int .i64 j ∧ V4 w (w.heap.size + 2) c ((es.take k).flatMap (fun e => evN e (scan e)) ++ [((0 : Int), xt)] ++ [((2 : Int), xo)] ++ (verN ⟨vt, vk⟩) ++ (sx.take j).flatMap (fun s : Sn => ((2 : Int), s.obj) :: verN s.v)) ((wr.heap.size, #[.int .i64 2, .int .i64 xt, .int .i64 xses, .int .i64 xl, .int .i64 xo, .int .i64 vt, .int .i64 vk, .int .i64 xp, .slice sa sn sc]) :: [(w.heap.size, #[ht.v, hs.v, ho.v, hp.v, .slice (some ⟨b, o, none⟩) en ec, .slice da dn_ dc, .slice ma mn_ mc, .slice wa wn wc]), (w.heap.size + 1, #[.slice none 0 0, .slice none 0 0, .slice none 0 0, .slice none 0 0])]) wv) (fun i _ => sn - (RowKit.intOf i).toNat)
       case atStart => exact ⟨0, _, Nat.zero_le _, rfl, by simpa using HS9.out⟩
       case round =>
         skip
         have hns := HRS.out.le
         obtain ⟨j, cj, hj, rfl, hsj⟩ := hrel
         have HS10 := hid hsj
         clear hsj
         by_cases hlj : j < sn
         · obtain ⟨s, b2, o2, hsx, rfl, hcs⟩ := (HRS.out.below HS10.out.b rfl).at_ hlj
           have hsm := List.mem_of_getElem? hsx
           have f0 := hcs 0 _ rfl; have f1 := hcs 1 _ rfl; have f2 := hcs 2 _ rfl
           simp only [Nat.add_zero] at f0
           have HKS := hid (HKV.out.2 s hsm); have HOS := hid (HSO.out s hsm); have HPJ := hid (take_flat (fun s : Sn => ((2 : Int), s.obj) :: verN s.v) hsx)
           clear hcs hsx hsm
           have HB := hid (HS10.out.alloc #[.int .i64 s.obj, .int .i64 s.v.t, .int .i64 s.v.k] 69)
           have hq11 := HB.out.Q.1; have hlq11 := HB.out.Q.2.2
           have hb11 := HB.out.box0.1; have hlb11 := HB.out.box0.2.2
           go_wp2_with fail
           refine (r_first ((w.heap.size + 2) + 1) (cj 2) (Fst ((es.take k).flatMap (fun e => evN e (scan e)) ++ [((0 : Int), xt)] ++ [((2 : Int), xo)] ++ (verN ⟨vt, vk⟩) ++ (sx.take j).flatMap (fun s : Sn => ((2 : Int), s.obj) :: verN s.v)) (2 : Nat)) s.obj _ (HB.out.o 2 (by decide)) HB.out.base (HB.out.len _)).mono ?_
           rintro e w11 ⟨v11, rfl, h1, h2, h3⟩
           obtain ⟨a11, l11, k11, rfl⟩ := h1.shp
           obtain ⟨c11, hs11⟩ := HB.out.step (i := 2) (by decide) [((2 : Int), s.obj)] h1 h2 h3 (fun p hp => HOS.out p (by simp only [List.mem_singleton] at hp; simp [hp])) (one_hy _ 2 _) (one_hoth _ 2 _)
           have hcl := HB.out.called (i := 2) (by decide) h2
           have HS11 := hid hs11
           clear h1 h2 h3 hs11 f0 f1 f2 hq11 hlq11 hb11 hlb11
           have hcq11 := hcl.1; have hfq11 := hcl.2.1; have hlc11 := hcl.2.2
           clear hcl
           have hq12 := HS11.out.Q.1; have hlq12 := HS11.out.Q.2.2
           have hb12 := HS11.out.box0.1; have hlb12 := HS11.out.box0.2.2
           go_wp2_with fail
           refine (r_made ((w.heap.size + 2) + 1) (c11 0) (Fst ((es.take k).flatMap (fun e => evN e (scan e)) ++ [((0 : Int), xt)] ++ [((2 : Int), xo)] ++ (verN ⟨vt, vk⟩) ++ (sx.take j).flatMap (fun s : Sn => ((2 : Int), s.obj) :: verN s.v) ++ [((2 : Int), s.obj)]) (0 : Nat)) s.v _ (HS11.out.o 0 (by decide)) HS11.out.base (HS11.out.len _)).mono ?_
           rintro e w12 ⟨v12, rfl, h1, h2, h3⟩
           obtain ⟨a12, l12, k12, rfl⟩ := h1.shp
           obtain ⟨c12, hs12⟩ := HS11.out.step (i := 0) (by decide) (verN s.v) h1 h2 h3 (fun p hp => HOS.out p (by simp [hp])) (ver_hy _ HKS.out) (ver_hoth _)
           have hcl := HS11.out.called (i := 0) (by decide) h2
           have HS12 := hid hs12
           clear h1 h2 h3 hs12 hcq11 hfq11 hlc11 hq12 hlq12 hb12 hlb12
           have hcq12 := hcl.1; have hfq12 := hcl.2.1; have hlc12 := hcl.2.2
           clear hcl
           go_wp2_with fail
           go_roundw
           case rel => exact ⟨j + 1, _, by omega, by go_num, by rw [HPJ.out]; simpa only [List.append_assoc, List.cons_append, List.nil_append] using HS12.out.drop⟩
           case measure => simp [RowKit.intOf]; omega
         · obtain rfl : sn = j := by omega
           have HF10 := hid (show V4 w (w.heap.size + 2) cj ((es.take k).flatMap (fun e => evN e (scan e)) ++ [((0 : Int), xt)] ++ [((2 : Int), xo)] ++ (verN ⟨vt, vk⟩) ++ sx.flatMap (fun s : Sn => ((2 : Int), s.obj) :: verN s.v)) _ _ from by have := HS10.out; rwa [all_take (HRS.out.len)] at this)
           have hq10 := HF10.out.Q.1; have hlq10 := HF10.out.Q.2.2; have hb10 := HF10.out.box0.1; have hlb10 := HF10.out.box0.2.2
           go_wp2_with fail
           go_roundw
           case rel => exact ⟨k + 1, _, by omega, by go_num, by rw [HPRE.out, HPN.out]; simpa only [List.append_assoc, List.cons_append, List.nil_append] using HF10.out.drop⟩
           case measure => simp [RowKit.intOf]; omega
     by_cases hk3 : xk = 3
     · clear hk1 hk2
       subst hk3
       have HPN : Hid (evN ⟨3, xt, xses, xl, xo, ⟨vt, vk⟩, xp, sa, sn, sc⟩ sx = [((0 : Int), xt)] ++ [((2 : Int), xo)] ++ verN ⟨vt, vk⟩ ++ sx.flatMap (fun s : Sn => ((2 : Int), s.obj) :: verN s.v)) := hid (by simp [evN])
       have hq13 := HE.out.Q.1; have hlq13 := HE.out.Q.2.2
       have hb13 := HE.out.box0.1; have hlb13 := HE.out.box0.2.2
       go_wp2_with fail
       refine (r_first ((w.heap.size + 2) + 1) (c 0) (Fst ((es.take k).flatMap (fun e => evN e (scan e))) (0 : Nat)) xt _ (HE.out.o 0 (by decide)) HE.out.base (HE.out.len _)).mono ?_
       rintro e w13 ⟨v13, rfl, h1, h2, h3⟩
       obtain ⟨a13, l13, k13, rfl⟩ := h1.shp
       obtain ⟨c13, hs13⟩ := HE.out.step (i := 0) (by decide) [((0 : Int), xt)] h1 h2 h3 (fun p hp => HEV.out p (by rw [HPN.out]; simp only [List.mem_append, List.mem_singleton] at hp ⊢; simp [hp])) (one_hy _ 0 _) (one_hoth _ 0 _)
       have hcl := HE.out.called (i := 0) (by decide) h2
       have HS13 := hid hs13
       clear h1 h2 h3 hs13 e0 e1 e2 e3 e4 e5 e6 e7 e8 hq13 hlq13 hb13 hlb13
       have hcq13 := hcl.1; have hfq13 := hcl.2.1; have hlc13 := hcl.2.2
       clear hcl
       have hq14 := HS13.out.Q.1; have hlq14 := HS13.out.Q.2.2
       have hb14 := HS13.out.box0.1; have hlb14 := HS13.out.box0.2.2
       go_wp2_with fail
       refine (r_first ((w.heap.size + 2) + 1) (c13 2) (Fst ((es.take k).flatMap (fun e => evN e (scan e)) ++ [((0 : Int), xt)]) (2 : Nat)) xo _ (HS13.out.o 2 (by decide)) HS13.out.base (HS13.out.len _)).mono ?_
       rintro e w14 ⟨v14, rfl, h1, h2, h3⟩
       obtain ⟨a14, l14, k14, rfl⟩ := h1.shp
       obtain ⟨c14, hs14⟩ := HS13.out.step (i := 2) (by decide) [((2 : Int), xo)] h1 h2 h3 (fun p hp => HEV.out p (by rw [HPN.out]; simp only [List.mem_append, List.mem_singleton] at hp ⊢; simp [hp])) (one_hy _ 2 _) (one_hoth _ 2 _)
       have hcl := HS13.out.called (i := 2) (by decide) h2
       have HS14 := hid hs14
       clear h1 h2 h3 hs14 hcq13 hfq13 hlc13 hq14 hlq14 hb14 hlb14
       have hcq14 := hcl.1; have hfq14 := hcl.2.1; have hlc14 := hcl.2.2
       clear hcl
       have hq15 := HS14.out.Q.1; have hlq15 := HS14.out.Q.2.2
       have hb15 := HS14.out.box0.1; have hlb15 := HS14.out.box0.2.2
       go_wp2_with fail
       refine (r_made ((w.heap.size + 2) + 1) (c14 0) (Fst ((es.take k).flatMap (fun e => evN e (scan e)) ++ [((0 : Int), xt)] ++ [((2 : Int), xo)]) (0 : Nat)) ⟨vt, vk⟩ _ (HS14.out.o 0 (by decide)) HS14.out.base (HS14.out.len _)).mono ?_
       rintro e w15 ⟨v15, rfl, h1, h2, h3⟩
       obtain ⟨a15, l15, k15, rfl⟩ := h1.shp
       obtain ⟨c15, hs15⟩ := HS14.out.step (i := 0) (by decide) (verN ⟨vt, vk⟩) h1 h2 h3 (fun p hp => HEV.out p (by rw [HPN.out]; simp only [List.mem_append, List.mem_singleton] at hp ⊢; simp [hp])) (ver_hy _ (HKV.out.1 (by simp))) (ver_hoth _)
       have hcl := HS14.out.called (i := 0) (by decide) h2
       have HS15 := hid hs15
       clear h1 h2 h3 hs15 hcq14 hfq14 hlc14 hq15 hlq15 hb15 hlb15
       have hcq15 := hcl.1; have hfq15 := hcl.2.1; have hlc15 := hcl.2.2
       clear hcl
       have hq16 := HS15.out.Q.1; have hlq16 := HS15.out.Q.2.2; have hb16 := HS15.out.box0.1; have hlb16 := HS15.out.box0.2.2
       go_wp2_with fail
       clear hq16 hlq16 hb16 hlb16 hcq15 hfq15 hlc15
       go_loopw [67] (fun i wv => ∃ (j : Nat) (c : Nat → Value), j ≤ sn ∧ i = .int .i64 j ∧ V4 w (w.heap.size + 2) c ((es.take k).flatMap (fun e => evN e (scan e)) ++ [((0 : Int), xt)] ++ [((2 : Int), xo)] ++ (verN ⟨vt, vk⟩) ++ (sx.take j).flatMap (fun s : Sn => ((2 : Int), s.obj) :: verN s.v)) ((wr.heap.size, #[.int .i64 3, .int .i64 xt, .int .i64 xses, .int .i64 xl, .int .i64 xo, .int .i64 vt, .int .i64 vk, .int .i64 xp, .slice sa sn sc]) :: [(w.heap.size, #[ht.v, hs.v, ho.v, hp.v, .slice (some ⟨b, o, none⟩) en ec, .slice da dn_ dc, .slice ma mn_ mc, .slice wa wn wc]), (w.heap.size + 1, #[.slice none 0 0, .slice none 0 0, .slice none 0 0, .slice none 0 0])]) wv) (fun i _ => sn - (RowKit.intOf i).toNat)
       case atStart => exact ⟨0, _, Nat.zero_le _, rfl, by simpa using HS15.out⟩
       case round =>
         skip
         have hns := HRS.out.le
         obtain ⟨j, cj, hj, rfl, hsj⟩ := hrel
         have HS16 := hid hsj
         clear hsj
         by_cases hlj : j < sn
         · obtain ⟨s, b2, o2, hsx, rfl, hcs⟩ := (HRS.out.below HS16.out.b rfl).at_ hlj
           have hsm := List.mem_of_getElem? hsx
           have f0 := hcs 0 _ rfl; have f1 := hcs 1 _ rfl; have f2 := hcs 2 _ rfl
           simp only [Nat.add_zero] at f0
           have HKS := hid (HKV.out.2 s hsm); have HOS := hid (HSO.out s hsm); have HPJ := hid (take_flat (fun s : Sn => ((2 : Int), s.obj) :: verN s.v) hsx)
           clear hcs hsx hsm
           have HB := hid (HS16.out.alloc #[.int .i64 s.obj, .int .i64 s.v.t, .int .i64 s.v.k] 69)
           have hq17 := HB.out.Q.1; have hlq17 := HB.out.Q.2.2
           have hb17 := HB.out.box0.1; have hlb17 := HB.out.box0.2.2
           go_wp2_with fail
           refine (r_first ((w.heap.size + 2) + 1) (cj 2) (Fst ((es.take k).flatMap (fun e => evN e (scan e)) ++ [((0 : Int), xt)] ++ [((2 : Int), xo)] ++ (verN ⟨vt, vk⟩) ++ (sx.take j).flatMap (fun s : Sn => ((2 : Int), s.obj) :: verN s.v)) (2 : Nat)) s.obj _ (HB.out.o 2 (by decide)) HB.out.base (HB.out.len _)).mono ?_
           rintro e w17 ⟨v17, rfl, h1, h2, h3⟩
           obtain ⟨a17, l17, k17, rfl⟩ := h1.shp
           obtain ⟨c17, hs17⟩ := HB.out.step (i := 2) (by decide) [((2 : Int), s.obj)] h1 h2 h3 (fun p hp => HOS.out p (by simp only [List.mem_singleton] at hp; simp [hp])) (one_hy _ 2 _) (one_hoth _ 2 _)
           have hcl := HB.out.called (i := 2) (by decide) h2
           have HS17 := hid hs17
           clear h1 h2 h3 hs17 f0 f1 f2 hq17 hlq17 hb17 hlb17
           have hcq17 := hcl.1; have hfq17 := hcl.2.1; have hlc17 := hcl.2.2
           clear hcl
           have hq18 := HS17.out.Q.1; have hlq18 := HS17.out.Q.2.2
           have hb18 := HS17.out.box0.1; have hlb18 := HS17.out.box0.2.2
           go_wp2_with fail
           refine (r_made ((w.heap.size + 2) + 1) (c17 0) (Fst ((es.take k).flatMap (fun e => evN e (scan e)) ++ [((0 : Int), xt)] ++ [((2 : Int), xo)] ++ (verN ⟨vt, vk⟩) ++ (sx.take j).flatMap (fun s : Sn => ((2 : Int), s.obj) :: verN s.v) ++ [((2 : Int), s.obj)]) (0 : Nat)) s.v _ (HS17.out.o 0 (by decide)) HS17.out.base (HS17.out.len _)).mono ?_
           rintro e w18 ⟨v18, rfl, h1, h2, h3⟩
           obtain ⟨a18, l18, k18, rfl⟩ := h1.shp
           obtain ⟨c18, hs18⟩ := HS17.out.step (i := 0) (by decide) (verN s.v) h1 h2 h3 (fun p hp => HOS.out p (by simp [hp])) (ver_hy _ HKS.out) (ver_hoth _)
           have hcl := HS17.out.called (i := 0) (by decide) h2
           have HS18 := hid hs18
           clear h1 h2 h3 hs18 hcq17 hfq17 hlc17 hq18 hlq18 hb18 hlb18
           have hcq18 := hcl.1; have hfq18 := hcl.2.1; have hlc18 := hcl.2.2
           clear hcl
           go_wp2_with fail
           go_roundw
           case rel => exact ⟨j + 1, _, by omega, by go_num, by rw [HPJ.out]; simpa only [List.append_assoc, List.cons_append, List.nil_append] using HS18.out.drop⟩
           case measure => simp [RowKit.intOf]; omega
         · obtain rfl : sn = j := by omega
           have HF16 := hid (show V4 w (w.heap.size + 2) cj ((es.take k).flatMap (fun e => evN e (scan e)) ++ [((0 : Int), xt)] ++ [((2 : Int), xo)] ++ (verN ⟨vt, vk⟩) ++ sx.flatMap (fun s : Sn => ((2 : Int), s.obj) :: verN s.v)) _ _ from by have := HS16.out; rwa [all_take (HRS.out.len)] at this)
           have hq16 := HF16.out.Q.1; have hlq16 := HF16.out.Q.2.2; have hb16 := HF16.out.box0.1; have hlb16 := HF16.out.box0.2.2
           go_wp2_with fail
           go_roundw
           case rel => exact ⟨k + 1, _, by omega, by go_num, by rw [HPRE.out, HPN.out]; simpa only [List.append_assoc, List.cons_append, List.nil_append] using HF16.out.drop⟩
           case measure => simp [RowKit.intOf]; omega
     by_cases hk4 : xk = 4
     · clear hk1 hk2 hk3
       subst hk4
       have HPN : Hid (evN ⟨4, xt, xses, xl, xo, ⟨vt, vk⟩, xp, sa, sn, sc⟩ sx = [((0 : Int), xt)] ++ [((3 : Int), xp)] ++ sx.flatMap (fun s : Sn => ((2 : Int), s.obj) :: verN s.v)) := hid (by simp [evN])
       have hq19 := HE.out.Q.1; have hlq19 := HE.out.Q.2.2
       have hb19 := HE.out.box0.1; have hlb19 := HE.out.box0.2.2
       go_wp2_with fail
       refine (r_first ((w.heap.size + 2) + 1) (c 0) (Fst ((es.take k).flatMap (fun e => evN e (scan e))) (0 : Nat)) xt _ (HE.out.o 0 (by decide)) HE.out.base (HE.out.len _)).mono ?_
       rintro e w19 ⟨v19, rfl, h1, h2, h3⟩
       obtain ⟨a19, l19, k19, rfl⟩ := h1.shp
       obtain ⟨c19, hs19⟩ := HE.out.step (i := 0) (by decide) [((0 : Int), xt)] h1 h2 h3 (fun p hp => HEV.out p (by rw [HPN.out]; simp only [List.mem_append, List.mem_singleton] at hp ⊢; simp [hp])) (one_hy _ 0 _) (one_hoth _ 0 _)
       have hcl := HE.out.called (i := 0) (by decide) h2
       have HS19 := hid hs19
       clear h1 h2 h3 hs19 e0 e1 e2 e3 e4 e5 e6 e7 e8 hq19 hlq19 hb19 hlb19
       have hcq19 := hcl.1; have hfq19 := hcl.2.1; have hlc19 := hcl.2.2
       clear hcl
       have hq20 := HS19.out.Q.1; have hlq20 := HS19.out.Q.2.2
       have hb20 := HS19.out.box0.1; have hlb20 := HS19.out.box0.2.2
       go_wp2_with fail
       refine (r_first ((w.heap.size + 2) + 1) (c19 3) (Fst ((es.take k).flatMap (fun e => evN e (scan e)) ++ [((0 : Int), xt)]) (3 : Nat)) xp _ (HS19.out.o 3 (by decide)) HS19.out.base (HS19.out.len _)).mono ?_
       rintro e w20 ⟨v20, rfl, h1, h2, h3⟩
       obtain ⟨a20, l20, k20, rfl⟩ := h1.shp
       obtain ⟨c20, hs20⟩ := HS19.out.step (i := 3) (by decide) [((3 : Int), xp)] h1 h2 h3 (fun p hp => HEV.out p (by rw [HPN.out]; simp only [List.mem_append, List.mem_singleton] at hp ⊢; simp [hp])) (one_hy _ 3 _) (one_hoth _ 3 _)
       have hcl := HS19.out.called (i := 3) (by decide) h2
       have HS20 := hid hs20
       clear h1 h2 h3 hs20 hcq19 hfq19 hlc19 hq20 hlq20 hb20 hlb20
       have hcq20 := hcl.1; have hfq20 := hcl.2.1; have hlc20 := hcl.2.2
       clear hcl
       have hq21 := HS20.out.Q.1; have hlq21 := HS20.out.Q.2.2; have hb21 := HS20.out.box0.1; have hlb21 := HS20.out.box0.2.2
       go_wp2_with fail
       clear hq21 hlq21 hb21 hlb21 hcq20 hfq20 hlc20
       go_loopw [67] (fun i wv => ∃ (j : Nat) (c : Nat → Value), j ≤ sn ∧ i = .int .i64 j ∧ V4 w (w.heap.size + 2) c ((es.take k).flatMap (fun e => evN e (scan e)) ++ [((0 : Int), xt)] ++ [((3 : Int), xp)] ++ (sx.take j).flatMap (fun s : Sn => ((2 : Int), s.obj) :: verN s.v)) ((wr.heap.size, #[.int .i64 4, .int .i64 xt, .int .i64 xses, .int .i64 xl, .int .i64 xo, .int .i64 vt, .int .i64 vk, .int .i64 xp, .slice sa sn sc]) :: [(w.heap.size, #[ht.v, hs.v, ho.v, hp.v, .slice (some ⟨b, o, none⟩) en ec, .slice da dn_ dc, .slice ma mn_ mc, .slice wa wn wc]), (w.heap.size + 1, #[.slice none 0 0, .slice none 0 0, .slice none 0 0, .slice none 0 0])]) wv) (fun i _ => sn - (RowKit.intOf i).toNat)
       case atStart => exact ⟨0, _, Nat.zero_le _, rfl, by simpa using HS20.out⟩
       case round =>
         skip
         have hns := HRS.out.le
         obtain ⟨j, cj, hj, rfl, hsj⟩ := hrel
         have HS21 := hid hsj
         clear hsj
         by_cases hlj : j < sn
         · obtain ⟨s, b2, o2, hsx, rfl, hcs⟩ := (HRS.out.below HS21.out.b rfl).at_ hlj
           have hsm := List.mem_of_getElem? hsx
           have f0 := hcs 0 _ rfl; have f1 := hcs 1 _ rfl; have f2 := hcs 2 _ rfl
           simp only [Nat.add_zero] at f0
           have HKS := hid (HKV.out.2 s hsm); have HOS := hid (HSO.out s hsm); have HPJ := hid (take_flat (fun s : Sn => ((2 : Int), s.obj) :: verN s.v) hsx)
           clear hcs hsx hsm
           have HB := hid (HS21.out.alloc #[.int .i64 s.obj, .int .i64 s.v.t, .int .i64 s.v.k] 69)
           have hq22 := HB.out.Q.1; have hlq22 := HB.out.Q.2.2
           have hb22 := HB.out.box0.1; have hlb22 := HB.out.box0.2.2
           go_wp2_with fail
           refine (r_first ((w.heap.size + 2) + 1) (cj 2) (Fst ((es.take k).flatMap (fun e => evN e (scan e)) ++ [((0 : Int), xt)] ++ [((3 : Int), xp)] ++ (sx.take j).flatMap (fun s : Sn => ((2 : Int), s.obj) :: verN s.v)) (2 : Nat)) s.obj _ (HB.out.o 2 (by decide)) HB.out.base (HB.out.len _)).mono ?_
           rintro e w22 ⟨v22, rfl, h1, h2, h3⟩
           obtain ⟨a22, l22, k22, rfl⟩ := h1.shp
           obtain ⟨c22, hs22⟩ := HB.out.step (i := 2) (by decide) [((2 : Int), s.obj)] h1 h2 h3 (fun p hp => HOS.out p (by simp only [List.mem_singleton] at hp; simp [hp])) (one_hy _ 2 _) (one_hoth _ 2 _)
           have hcl := HB.out.called (i := 2) (by decide) h2
           have HS22 := hid hs22
           clear h1 h2 h3 hs22 f0 f1 f2 hq22 hlq22 hb22 hlb22
           have hcq22 := hcl.1; have hfq22 := hcl.2.1; have hlc22 := hcl.2.2
           clear hcl
           have hq23 := HS22.out.Q.1; have hlq23 := HS22.out.Q.2.2
           have hb23 := HS22.out.box0.1; have hlb23 := HS22.out.box0.2.2
           go_wp2_with fail
           refine (r_made ((w.heap.size + 2) + 1) (c22 0) (Fst ((es.take k).flatMap (fun e => evN e (scan e)) ++ [((0 : Int), xt)] ++ [((3 : Int), xp)] ++ (sx.take j).flatMap (fun s : Sn => ((2 : Int), s.obj) :: verN s.v) ++ [((2 : Int), s.obj)]) (0 : Nat)) s.v _ (HS22.out.o 0 (by decide)) HS22.out.base (HS22.out.len _)).mono ?_
           rintro e w23 ⟨v23, rfl, h1, h2, h3⟩
           obtain ⟨a23, l23, k23, rfl⟩ := h1.shp
           obtain ⟨c23, hs23⟩ := HS22.out.step (i := 0) (by decide) (verN s.v) h1 h2 h3 (fun p hp => HOS.out p (by simp [hp])) (ver_hy _ HKS.out) (ver_hoth _)
           have hcl := HS22.out.called (i := 0) (by decide) h2
           have HS23 := hid hs23
           clear h1 h2 h3 hs23 hcq22 hfq22 hlc22 hq23 hlq23 hb23 hlb23
           have hcq23 := hcl.1; have hfq23 := hcl.2.1; have hlc23 := hcl.2.2
           clear hcl
           go_wp2_with fail
           go_roundw
           case rel => exact ⟨j + 1, _, by omega, by go_num, by rw [HPJ.out]; simpa only [List.append_assoc, List.cons_append, List.nil_append] using HS23.out.drop⟩
           case measure => simp [RowKit.intOf]; omega
         · obtain rfl : sn = j := by omega
           have HF21 := hid (show V4 w (w.heap.size + 2) cj ((es.take k).flatMap (fun e => evN e (scan e)) ++ [((0 : Int), xt)] ++ [((3 : Int), xp)] ++ sx.flatMap (fun s : Sn => ((2 : Int), s.obj) :: verN s.v)) _ _ from by have := HS21.out; rwa [all_take (HRS.out.len)] at this)
           have hq21 := HF21.out.Q.1; have hlq21 := HF21.out.Q.2.2; have hb21 := HF21.out.box0.1; have hlb21 := HF21.out.box0.2.2
           go_wp2_with fail
           go_roundw
           case rel => exact ⟨k + 1, _, by omega, by go_num, by rw [HPRE.out, HPN.out]; simpa only [List.append_assoc, List.cons_append, List.nil_append] using HF21.out.drop⟩
           case measure => simp [RowKit.intOf]; omega
     have HPN : Hid (evN ⟨xk, xt, xses, xl, xo, ⟨vt, vk⟩, xp, sa, sn, sc⟩ sx = [((0 : Int), xt)] ++ sx.flatMap (fun s : Sn => ((2 : Int), s.obj) :: verN s.v)) := hid (by simp [evN, hk1, hk2, hk3, hk4])
     have hb1 : (xk == 1) = false := by simpa using hk1
     have hb2 : (xk == 2) = false := by simpa using hk2
     have hb3 : (xk == 3) = false := by simpa using hk3
     have hb4 : (xk == 4) = false := by simpa using hk4
     clear hk1 hk2 hk3 hk4
     have hq24 := HE.out.Q.1; have hlq24 := HE.out.Q.2.2
     have hb24 := HE.out.box0.1; have hlb24 := HE.out.box0.2.2
     go_wp2_with fail
     refine (r_first ((w.heap.size + 2) + 1) (c 0) (Fst ((es.take k).flatMap (fun e => evN e (scan e))) (0 : Nat)) xt _ (HE.out.o 0 (by decide)) HE.out.base (HE.out.len _)).mono ?_
     rintro e w24 ⟨v24, rfl, h1, h2, h3⟩
     obtain ⟨a24, l24, k24, rfl⟩ := h1.shp
     obtain ⟨c24, hs24⟩ := HE.out.step (i := 0) (by decide) [((0 : Int), xt)] h1 h2 h3 (fun p hp => HEV.out p (by rw [HPN.out]; simp only [List.mem_append, List.mem_singleton] at hp ⊢; simp [hp])) (one_hy _ 0 _) (one_hoth _ 0 _)
     have hcl := HE.out.called (i := 0) (by decide) h2
     have HS24 := hid hs24
     clear h1 h2 h3 hs24 e0 e1 e2 e3 e4 e5 e6 e7 e8 hq24 hlq24 hb24 hlb24
     have hcq24 := hcl.1; have hfq24 := hcl.2.1; have hlc24 := hcl.2.2
     clear hcl
     have hq25 := HS24.out.Q.1; have hlq25 := HS24.out.Q.2.2; have hb25 := HS24.out.box0.1; have hlb25 := HS24.out.box0.2.2
     go_wp2_with fail
     clear hq25 hlq25 hb25 hlb25 hcq24 hfq24 hlc24
     go_loopw [67] (fun i wv => ∃ (j : Nat) (c : Nat → Value), j ≤ sn ∧ i = .int .i64 j ∧ V4 w (w.heap.size + 2) c ((es.take k).flatMap (fun e => evN e (scan e)) ++ [((0 : Int), xt)] ++ (sx.take j).flatMap (fun s : Sn => ((2 : Int), s.obj) :: verN s.v)) ((wr.heap.size, #[.int .i64 xk, .int .i64 xt, .int .i64 xses, .int .i64 xl, .int .i64 xo, .int .i64 vt, .int .i64 vk, .int .i64 xp, .slice sa sn sc]) :: [(w.heap.size, #[ht.v, hs.v, ho.v, hp.v, .slice (some ⟨b, o, none⟩) en ec, .slice da dn_ dc, .slice ma mn_ mc, .slice wa wn wc]), (w.heap.size + 1, #[.slice none 0 0, .slice none 0 0, .slice none 0 0, .slice none 0 0])]) wv) (fun i _ => sn - (RowKit.intOf i).toNat)
     case atStart => exact ⟨0, _, Nat.zero_le _, rfl, by simpa using HS24.out⟩
     case round =>
       skip
       have hns := HRS.out.le
       obtain ⟨j, cj, hj, rfl, hsj⟩ := hrel
       have HS25 := hid hsj
       clear hsj
       by_cases hlj : j < sn
       · obtain ⟨s, b2, o2, hsx, rfl, hcs⟩ := (HRS.out.below HS25.out.b rfl).at_ hlj
         have hsm := List.mem_of_getElem? hsx
         have f0 := hcs 0 _ rfl; have f1 := hcs 1 _ rfl; have f2 := hcs 2 _ rfl
         simp only [Nat.add_zero] at f0
         have HKS := hid (HKV.out.2 s hsm); have HOS := hid (HSO.out s hsm); have HPJ := hid (take_flat (fun s : Sn => ((2 : Int), s.obj) :: verN s.v) hsx)
         clear hcs hsx hsm
         have HB := hid (HS25.out.alloc #[.int .i64 s.obj, .int .i64 s.v.t, .int .i64 s.v.k] 69)
         have hq26 := HB.out.Q.1; have hlq26 := HB.out.Q.2.2
         have hb26 := HB.out.box0.1; have hlb26 := HB.out.box0.2.2
         go_wp2_with fail
         refine (r_first ((w.heap.size + 2) + 1) (cj 2) (Fst ((es.take k).flatMap (fun e => evN e (scan e)) ++ [((0 : Int), xt)] ++ (sx.take j).flatMap (fun s : Sn => ((2 : Int), s.obj) :: verN s.v)) (2 : Nat)) s.obj _ (HB.out.o 2 (by decide)) HB.out.base (HB.out.len _)).mono ?_
         rintro e w26 ⟨v26, rfl, h1, h2, h3⟩
         obtain ⟨a26, l26, k26, rfl⟩ := h1.shp
         obtain ⟨c26, hs26⟩ := HB.out.step (i := 2) (by decide) [((2 : Int), s.obj)] h1 h2 h3 (fun p hp => HOS.out p (by simp only [List.mem_singleton] at hp; simp [hp])) (one_hy _ 2 _) (one_hoth _ 2 _)
         have hcl := HB.out.called (i := 2) (by decide) h2
         have HS26 := hid hs26
         clear h1 h2 h3 hs26 f0 f1 f2 hq26 hlq26 hb26 hlb26
         have hcq26 := hcl.1; have hfq26 := hcl.2.1; have hlc26 := hcl.2.2
         clear hcl
         have hq27 := HS26.out.Q.1; have hlq27 := HS26.out.Q.2.2
         have hb27 := HS26.out.box0.1; have hlb27 := HS26.out.box0.2.2
         go_wp2_with fail
         refine (r_made ((w.heap.size + 2) + 1) (c26 0) (Fst ((es.take k).flatMap (fun e => evN e (scan e)) ++ [((0 : Int), xt)] ++ (sx.take j).flatMap (fun s : Sn => ((2 : Int), s.obj) :: verN s.v) ++ [((2 : Int), s.obj)]) (0 : Nat)) s.v _ (HS26.out.o 0 (by decide)) HS26.out.base (HS26.out.len _)).mono ?_
         rintro e w27 ⟨v27, rfl, h1, h2, h3⟩
         obtain ⟨a27, l27, k27, rfl⟩ := h1.shp
         obtain ⟨c27, hs27⟩ := HS26.out.step (i := 0) (by decide) (verN s.v) h1 h2 h3 (fun p hp => HOS.out p (by simp [hp])) (ver_hy _ HKS.out) (ver_hoth _)
         have hcl := HS26.out.called (i := 0) (by decide) h2
         have HS27 := hid hs27
         clear h1 h2 h3 hs27 hcq26 hfq26 hlc26 hq27 hlq27 hb27 hlb27
         have hcq27 := hcl.1; have hfq27 := hcl.2.1; have hlc27 := hcl.2.2
         clear hcl
         go_wp2_with fail
         go_roundw
         case rel => exact ⟨j + 1, _, by omega, by go_num, by rw [HPJ.out]; simpa only [List.append_assoc, List.cons_append, List.nil_append] using HS27.out.drop⟩
         case measure => simp [RowKit.intOf]; omega
       · obtain rfl : sn = j := by omega
         have HF25 := hid (show V4 w (w.heap.size + 2) cj ((es.take k).flatMap (fun e => evN e (scan e)) ++ [((0 : Int), xt)] ++ sx.flatMap (fun s : Sn => ((2 : Int), s.obj) :: verN s.v)) _ _ from by have := HS25.out; rwa [all_take (HRS.out.len)] at this)
         have hq25 := HF25.out.Q.1; have hlq25 := HF25.out.Q.2.2; have hb25 := HF25.out.box0.1; have hlb25 := HF25.out.box0.2.2
         go_wp2_with fail
         go_roundw
         case rel => exact ⟨k + 1, _, by omega, by go_num, by rw [HPRE.out, HPN.out]; simpa only [List.append_assoc, List.cons_append, List.nil_append] using HF25.out.drop⟩
         case measure => simp [RowKit.intOf]; omega
   · obtain rfl : en = k := by omega
     have HX1 := hid (show V4 w (w.heap.size + 2) c (es.flatMap (fun e => evN e (scan e))) [(w.heap.size, #[ht.v, hs.v, ho.v, hp.v, .slice ea en ec, .slice da dn_ dc, .slice ma mn_ mc, .slice wa wn wc]), (w.heap.size + 1, #[.slice none 0 0, .slice none 0 0, .slice none 0 0, .slice none 0 0])] _ from by have := HS1.out; rwa [all_take (HD.out.1.len)] at this)
     have hq0 := HX1.out.Q.1; have hlq0 := HX1.out.Q.2.2; have hbx := HX1.out.bx w.heap.size #[ht.v, hs.v, ho.v, hp.v, .slice ea en ec, .slice da dn_ dc, .slice ma mn_ mc, .slice wa wn wc] (by simp)
     have hbh := hbx.1; have hlh := hbx.2.2
     clear hbx
     go_wp2_with fail
     clear hq0 hlq0 hbh hlh
     go_loopw [88] (fun i wr => ∃ (k : Nat) (c : Nat → Value), k ≤ dn_ ∧ i = .int .i64 k ∧ V4 w (w.heap.size + 2) c (es.flatMap (fun e => evN e (scan e)) ++ (ds.take k).flatMap (fun x => ordN x (dn x))) [(w.heap.size, #[ht.v, hs.v, ho.v, hp.v, .slice ea en ec, .slice da dn_ dc, .slice ma mn_ mc, .slice wa wn wc]), (w.heap.size + 1, #[.slice none 0 0, .slice none 0 0, .slice none 0 0, .slice none 0 0])] wr) (fun i _ => dn_ - (RowKit.intOf i).toNat)
     case atStart => exact ⟨0, _, Nat.zero_le _, rfl, by simpa using HX1.out⟩
     case round =>
       obtain ⟨k, c, hk, rfl, hsk⟩ := hrel
       have HS28 := hid hsk
       clear hsk
       by_cases hlt : k < dn_
       · obtain ⟨x, b, o, hx, rfl, hc⟩ := (HD.out.2.1.below HS28.out.b rfl).at_ hlt
         have hmem := List.mem_of_getElem? hx
         have e0 := hc 0 _ rfl
         have e1 := hc 1 _ rfl
         simp only [Nat.add_zero] at e0
         have HRS := hid (HD.out.2.2.2.2.2.1 x hmem); have HEV := hid (HOD.out x hmem); have HPRE := hid (take_flat (fun x => ordN x (dn x)) hx)
         obtain ⟨sx, hsx⟩ : ∃ sx, sx = dn x := ⟨_, rfl⟩
         simp only [← hsx] at HRS HEV HPRE
         clear hsx hc hx hmem
         obtain ⟨xo, sa, sn, sc⟩ := x
         simp only at e0 e1
         have HE := hid (HS28.out.alloc #[.int .i64 xo, .slice sa sn sc] 72)
         have HPN : Hid (ordN ⟨xo, sa, sn, sc⟩ sx = [((2 : Int), xo)] ++ sx.map (fun d => ((0 : Int), d))) := hid (by simp [ordN])
         have hq29 := HE.out.Q.1; have hlq29 := HE.out.Q.2.2
         have hb29 := HE.out.box0.1; have hlb29 := HE.out.box0.2.2
         go_wp2_with fail
         refine (r_first ((w.heap.size + 2) + 1) (c 2) (Fst (es.flatMap (fun e => evN e (scan e)) ++ (ds.take k).flatMap (fun x => ordN x (dn x))) (2 : Nat)) xo _ (HE.out.o 2 (by decide)) HE.out.base (HE.out.len _)).mono ?_
         rintro e w29 ⟨v29, rfl, h1, h2, h3⟩
         obtain ⟨a29, l29, k29, rfl⟩ := h1.shp
         obtain ⟨c29, hs29⟩ := HE.out.step (i := 2) (by decide) [((2 : Int), xo)] h1 h2 h3 (fun p hp => HEV.out p (by rw [HPN.out]; simp only [List.mem_append, List.mem_singleton] at hp ⊢; simp [hp])) (one_hy _ 2 _) (one_hoth _ 2 _)
         have hcl := HE.out.called (i := 2) (by decide) h2
         have HS29 := hid hs29
         clear h1 h2 h3 hs29 e0 e1 hq29 hlq29 hb29 hlb29
         have hcq29 := hcl.1; have hfq29 := hcl.2.1; have hlc29 := hcl.2.2
         clear hcl
         have hq30 := HS29.out.Q.1; have hlq30 := HS29.out.Q.2.2; have hb30 := HS29.out.box0.1; have hlb30 := HS29.out.box0.2.2
         go_wp2_with fail
         clear hq30 hlq30 hb30 hlb30 hcq29 hfq29 hlc29
         go_loopw [101] (fun i wv => ∃ (j : Nat) (c : Nat → Value), j ≤ sn ∧ i = .int .i64 j ∧ V4 w (w.heap.size + 2) c (es.flatMap (fun e => evN e (scan e)) ++ (ds.take k).flatMap (fun x => ordN x (dn x)) ++ [((2 : Int), xo)] ++ (sx.take j).map (fun d => ((0 : Int), d))) ((wr.heap.size, #[.int .i64 xo, .slice sa sn sc]) :: [(w.heap.size, #[ht.v, hs.v, ho.v, hp.v, .slice ea en ec, .slice (some ⟨b, o, none⟩) dn_ dc, .slice ma mn_ mc, .slice wa wn wc]), (w.heap.size + 1, #[.slice none 0 0, .slice none 0 0, .slice none 0 0, .slice none 0 0])]) wv) (fun i _ => sn - (RowKit.intOf i).toNat)
         case atStart => exact ⟨0, _, Nat.zero_le _, rfl, by simpa using HS29.out⟩
         case round =>
           skip
           have hns := HRS.out.le
           obtain ⟨j, cj, hj, rfl, hsj⟩ := hrel
           have HS30 := hid hsj
           clear hsj
           by_cases hlj : j < sn
           · obtain ⟨d, b2, o2, hsx, rfl, hcs⟩ := (HRS.out.below HS30.out.b rfl).at_ hlj
             have hsm := List.mem_of_getElem? hsx
             have f0 := hcs 0 _ rfl
             simp only [Nat.mul_one, Nat.add_zero] at f0
             have HPJ := hid (take_map (fun d : Int => ((0 : Int), d)) hsx)
             have HDM := hid hsm
             clear hcs hsx hsm
             have hq31 := HS30.out.Q.1; have hlq31 := HS30.out.Q.2.2
             have hb31 := HS30.out.box0.1; have hlb31 := HS30.out.box0.2.2
             go_wp2_with fail
             refine (r_first ((w.heap.size + 2) + 1) (cj 0) (Fst (es.flatMap (fun e => evN e (scan e)) ++ (ds.take k).flatMap (fun x => ordN x (dn x)) ++ [((2 : Int), xo)] ++ (sx.take j).map (fun d => ((0 : Int), d))) (0 : Nat)) d _ (HS30.out.o 0 (by decide)) HS30.out.base (HS30.out.len _)).mono ?_
             rintro e w31 ⟨v31, rfl, h1, h2, h3⟩
             obtain ⟨a31, l31, k31, rfl⟩ := h1.shp
             obtain ⟨c31, hs31⟩ := HS30.out.step (i := 0) (by decide) [((0 : Int), d)] h1 h2 h3 (fun p hp => HEV.out p (by rw [HPN.out]; simp only [List.mem_singleton] at hp; subst hp; exact List.mem_append_right _ (List.mem_map.2 ⟨d, HDM.out, rfl⟩))) (one_hy _ 0 _) (one_hoth _ 0 _)
             have hcl := HS30.out.called (i := 0) (by decide) h2
             have HS31 := hid hs31
             clear h1 h2 h3 hs31 f0 hq31 hlq31 hb31 hlb31
             have hcq31 := hcl.1; have hfq31 := hcl.2.1; have hlc31 := hcl.2.2
             clear hcl
             go_wp2_with fail
             go_roundw
             case rel => exact ⟨j + 1, _, by omega, by go_num, by rw [HPJ.out]; simpa only [List.append_assoc] using HS31.out⟩
             case measure => simp [RowKit.intOf]; omega
           · obtain rfl : sn = j := by omega
             have HF30 := hid (show V4 w (w.heap.size + 2) cj (es.flatMap (fun e => evN e (scan e)) ++ (ds.take k).flatMap (fun x => ordN x (dn x)) ++ [((2 : Int), xo)] ++ sx.map (fun d => ((0 : Int), d))) _ _ from by have := HS30.out; rwa [all_take (HRS.out.len)] at this)
             have hq30 := HF30.out.Q.1; have hlq30 := HF30.out.Q.2.2; have hb30 := HF30.out.box0.1; have hlb30 := HF30.out.box0.2.2
             go_wp2_with fail
             go_roundw
             case rel => exact ⟨k + 1, _, by omega, by go_num, by rw [HPRE.out, HPN.out]; simpa only [List.append_assoc, List.cons_append, List.nil_append] using HF30.out.drop⟩
             case measure => simp [RowKit.intOf]; omega
       · obtain rfl : dn_ = k := by omega
         have HX28 := hid (show V4 w (w.heap.size + 2) c (es.flatMap (fun e => evN e (scan e)) ++ ds.flatMap (fun x => ordN x (dn x))) [(w.heap.size, #[ht.v, hs.v, ho.v, hp.v, .slice ea en ec, .slice da dn_ dc, .slice ma mn_ mc, .slice wa wn wc]), (w.heap.size + 1, #[.slice none 0 0, .slice none 0 0, .slice none 0 0, .slice none 0 0])] _ from by have := HS28.out; rwa [all_take (HD.out.2.1.len)] at this)
         have hq0 := HX28.out.Q.1; have hlq0 := HX28.out.Q.2.2; have hbx := HX28.out.bx w.heap.size #[ht.v, hs.v, ho.v, hp.v, .slice ea en ec, .slice da dn_ dc, .slice ma mn_ mc, .slice wa wn wc] (by simp)
         have hbh := hbx.1; have hlh := hbx.2.2
         clear hbx
         go_wp2_with fail
         clear hq0 hlq0 hbh hlh
         go_loopw [115] (fun i wr => ∃ (k : Nat) (c : Nat → Value), k ≤ mn_ ∧ i = .int .i64 k ∧ V4 w (w.heap.size + 2) c (es.flatMap (fun e => evN e (scan e)) ++ ds.flatMap (fun x => ordN x (dn x)) ++ (ms.take k).flatMap (fun x => matN x (mn x))) [(w.heap.size, #[ht.v, hs.v, ho.v, hp.v, .slice ea en ec, .slice da dn_ dc, .slice ma mn_ mc, .slice wa wn wc]), (w.heap.size + 1, #[.slice none 0 0, .slice none 0 0, .slice none 0 0, .slice none 0 0])] wr) (fun i _ => mn_ - (RowKit.intOf i).toNat)
         case atStart => exact ⟨0, _, Nat.zero_le _, rfl, by simpa using HX28.out⟩
         case round =>
           obtain ⟨k, c, hk, rfl, hsk⟩ := hrel
           have HS32 := hid hsk
           clear hsk
           by_cases hlt : k < mn_
           · obtain ⟨x, b, o, hx, rfl, hc⟩ := (HD.out.2.2.1.below HS32.out.b rfl).at_ hlt
             have hmem := List.mem_of_getElem? hx
             have e0 := hc 0 _ rfl
             have e1 := hc 1 _ rfl
             have e2 := hc 2 _ rfl
             have e3 := hc 3 _ rfl
             simp only [Nat.add_zero] at e0
             have HRS := hid (HD.out.2.2.2.2.2.2 x hmem); have HEV := hid (HOM.out x hmem); have HPRE := hid (take_flat (fun x => matN x (mn x)) hx)
             obtain ⟨sx, hsx⟩ : ∃ sx, sx = mn x := ⟨_, rfl⟩
             simp only [← hsx] at HRS HEV HPRE
             clear hsx hc hx hmem
             obtain ⟨xp, xo, xf, sa, sn, sc⟩ := x
             simp only at e0 e1 e2 e3
             have HE := hid (HS32.out.alloc #[.int .i64 xp, .int .i64 xo, .bool xf, .slice sa sn sc] 79)
             have HPN : Hid (matN ⟨xp, xo, xf, sa, sn, sc⟩ sx = [((3 : Int), xp)] ++ [((2 : Int), xo)] ++ sx.map (fun d => ((0 : Int), d))) := hid (by simp [matN])
             have hq33 := HE.out.Q.1; have hlq33 := HE.out.Q.2.2
             have hb33 := HE.out.box0.1; have hlb33 := HE.out.box0.2.2
             go_wp2_with fail
             refine (r_first ((w.heap.size + 2) + 1) (c 3) (Fst (es.flatMap (fun e => evN e (scan e)) ++ ds.flatMap (fun x => ordN x (dn x)) ++ (ms.take k).flatMap (fun x => matN x (mn x))) (3 : Nat)) xp _ (HE.out.o 3 (by decide)) HE.out.base (HE.out.len _)).mono ?_
             rintro e w33 ⟨v33, rfl, h1, h2, h3⟩
             obtain ⟨a33, l33, k33, rfl⟩ := h1.shp
             obtain ⟨c33, hs33⟩ := HE.out.step (i := 3) (by decide) [((3 : Int), xp)] h1 h2 h3 (fun p hp => HEV.out p (by rw [HPN.out]; simp only [List.mem_append, List.mem_singleton] at hp ⊢; simp [hp])) (one_hy _ 3 _) (one_hoth _ 3 _)
             have hcl := HE.out.called (i := 3) (by decide) h2
             have HS33 := hid hs33
             clear h1 h2 h3 hs33 e0 e1 e2 e3 hq33 hlq33 hb33 hlb33
             have hcq33 := hcl.1; have hfq33 := hcl.2.1; have hlc33 := hcl.2.2
             clear hcl
             have hq34 := HS33.out.Q.1; have hlq34 := HS33.out.Q.2.2
             have hb34 := HS33.out.box0.1; have hlb34 := HS33.out.box0.2.2
             go_wp2_with fail
             refine (r_first ((w.heap.size + 2) + 1) (c33 2) (Fst (es.flatMap (fun e => evN e (scan e)) ++ ds.flatMap (fun x => ordN x (dn x)) ++ (ms.take k).flatMap (fun x => matN x (mn x)) ++ [((3 : Int), xp)]) (2 : Nat)) xo _ (HS33.out.o 2 (by decide)) HS33.out.base (HS33.out.len _)).mono ?_
             rintro e w34 ⟨v34, rfl, h1, h2, h3⟩
             obtain ⟨a34, l34, k34, rfl⟩ := h1.shp
             obtain ⟨c34, hs34⟩ := HS33.out.step (i := 2) (by decide) [((2 : Int), xo)] h1 h2 h3 (fun p hp => HEV.out p (by rw [HPN.out]; simp only [List.mem_append, List.mem_singleton] at hp ⊢; simp [hp])) (one_hy _ 2 _) (one_hoth _ 2 _)
             have hcl := HS33.out.called (i := 2) (by decide) h2
             have HS34 := hid hs34
             clear h1 h2 h3 hs34 hcq33 hfq33 hlc33 hq34 hlq34 hb34 hlb34
             have hcq34 := hcl.1; have hfq34 := hcl.2.1; have hlc34 := hcl.2.2
             clear hcl
             have hq35 := HS34.out.Q.1; have hlq35 := HS34.out.Q.2.2; have hb35 := HS34.out.box0.1; have hlb35 := HS34.out.box0.2.2
             go_wp2_with fail
             clear hq35 hlq35 hb35 hlb35 hcq34 hfq34 hlc34
             go_loopw [134] (fun i wv => ∃ (j : Nat) (c : Nat → Value), j ≤ sn ∧ i = .int .i64 j ∧ V4 w (w.heap.size + 2) c (es.flatMap (fun e => evN e (scan e)) ++ ds.flatMap (fun x => ordN x (dn x)) ++ (ms.take k).flatMap (fun x => matN x (mn x)) ++ [((3 : Int), xp)] ++ [((2 : Int), xo)] ++ (sx.take j).map (fun d => ((0 : Int), d))) ((wr.heap.size, #[.int .i64 xp, .int .i64 xo, .bool xf, .slice sa sn sc]) :: [(w.heap.size, #[ht.v, hs.v, ho.v, hp.v, .slice ea en ec, .slice da dn_ dc, .slice (some ⟨b, o, none⟩) mn_ mc, .slice wa wn wc]), (w.heap.size + 1, #[.slice none 0 0, .slice none 0 0, .slice none 0 0, .slice none 0 0])]) wv) (fun i _ => sn - (RowKit.intOf i).toNat)
             case atStart => exact ⟨0, _, Nat.zero_le _, rfl, by simpa using HS34.out⟩
             case round =>
               skip
               have hns := HRS.out.le
               obtain ⟨j, cj, hj, rfl, hsj⟩ := hrel
               have HS35 := hid hsj
               clear hsj
               by_cases hlj : j < sn
               · obtain ⟨d, b2, o2, hsx, rfl, hcs⟩ := (HRS.out.below HS35.out.b rfl).at_ hlj
                 have hsm := List.mem_of_getElem? hsx
                 have f0 := hcs 0 _ rfl
                 simp only [Nat.mul_one, Nat.add_zero] at f0
                 have HPJ := hid (take_map (fun d : Int => ((0 : Int), d)) hsx)
                 have HDM := hid hsm
                 clear hcs hsx hsm
                 have hq36 := HS35.out.Q.1; have hlq36 := HS35.out.Q.2.2
                 have hb36 := HS35.out.box0.1; have hlb36 := HS35.out.box0.2.2
                 go_wp2_with fail
                 refine (r_first ((w.heap.size + 2) + 1) (cj 0) (Fst (es.flatMap (fun e => evN e (scan e)) ++ ds.flatMap (fun x => ordN x (dn x)) ++ (ms.take k).flatMap (fun x => matN x (mn x)) ++ [((3 : Int), xp)] ++ [((2 : Int), xo)] ++ (sx.take j).map (fun d => ((0 : Int), d))) (0 : Nat)) d _ (HS35.out.o 0 (by decide)) HS35.out.base (HS35.out.len _)).mono ?_
                 rintro e w36 ⟨v36, rfl, h1, h2, h3⟩
                 obtain ⟨a36, l36, k36, rfl⟩ := h1.shp
                 obtain ⟨c36, hs36⟩ := HS35.out.step (i := 0) (by decide) [((0 : Int), d)] h1 h2 h3 (fun p hp => HEV.out p (by rw [HPN.out]; simp only [List.mem_singleton] at hp; subst hp; exact List.mem_append_right _ (List.mem_map.2 ⟨d, HDM.out, rfl⟩))) (one_hy _ 0 _) (one_hoth _ 0 _)
                 have hcl := HS35.out.called (i := 0) (by decide) h2
                 have HS36 := hid hs36
                 clear h1 h2 h3 hs36 f0 hq36 hlq36 hb36 hlb36
                 have hcq36 := hcl.1; have hfq36 := hcl.2.1; have hlc36 := hcl.2.2
                 clear hcl
                 go_wp2_with fail
                 go_roundw
                 case rel => exact ⟨j + 1, _, by omega, by go_num, by rw [HPJ.out]; simpa only [List.append_assoc] using HS36.out⟩
                 case measure => simp [RowKit.intOf]; omega
               · obtain rfl : sn = j := by omega
                 have HF35 := hid (show V4 w (w.heap.size + 2) cj (es.flatMap (fun e => evN e (scan e)) ++ ds.flatMap (fun x => ordN x (dn x)) ++ (ms.take k).flatMap (fun x => matN x (mn x)) ++ [((3 : Int), xp)] ++ [((2 : Int), xo)] ++ sx.map (fun d => ((0 : Int), d))) _ _ from by have := HS35.out; rwa [all_take (HRS.out.len)] at this)
                 have hq35 := HF35.out.Q.1; have hlq35 := HF35.out.Q.2.2; have hb35 := HF35.out.box0.1; have hlb35 := HF35.out.box0.2.2
                 go_wp2_with fail
                 go_roundw
                 case rel => exact ⟨k + 1, _, by omega, by go_num, by rw [HPRE.out, HPN.out]; simpa only [List.append_assoc, List.cons_append, List.nil_append] using HF35.out.drop⟩
                 case measure => simp [RowKit.intOf]; omega
           · obtain rfl : mn_ = k := by omega
             have HX32 := hid (show V4 w (w.heap.size + 2) c (es.flatMap (fun e => evN e (scan e)) ++ ds.flatMap (fun x => ordN x (dn x)) ++ ms.flatMap (fun x => matN x (mn x))) [(w.heap.size, #[ht.v, hs.v, ho.v, hp.v, .slice ea en ec, .slice da dn_ dc, .slice ma mn_ mc, .slice wa wn wc]), (w.heap.size + 1, #[.slice none 0 0, .slice none 0 0, .slice none 0 0, .slice none 0 0])] _ from by have := HS32.out; rwa [all_take (HD.out.2.2.1.len)] at this)
             have hq0 := HX32.out.Q.1; have hlq0 := HX32.out.Q.2.2; have hbx := HX32.out.bx w.heap.size #[ht.v, hs.v, ho.v, hp.v, .slice ea en ec, .slice da dn_ dc, .slice ma mn_ mc, .slice wa wn wc] (by simp)
             have hbh := hbx.1; have hlh := hbx.2.2
             clear hbx
             go_wp2_with fail
             clear hq0 hlq0 hbh hlh
             go_loopw [148] (fun i wr => ∃ (k : Nat) (c : Nat → Value), k ≤ wn ∧ i = .int .i64 k ∧ V4 w (w.heap.size + 2) c (es.flatMap (fun e => evN e (scan e)) ++ ds.flatMap (fun x => ordN x (dn x)) ++ ms.flatMap (fun x => matN x (mn x)) ++ (qs.take k).flatMap wantN) [(w.heap.size, #[ht.v, hs.v, ho.v, hp.v, .slice ea en ec, .slice da dn_ dc, .slice ma mn_ mc, .slice wa wn wc]), (w.heap.size + 1, #[.slice none 0 0, .slice none 0 0, .slice none 0 0, .slice none 0 0])] wr) (fun i _ => wn - (RowKit.intOf i).toNat)
             case atStart => exact ⟨0, _, Nat.zero_le _, rfl, by simpa using HX32.out⟩
             case round =>
               obtain ⟨k, c, hk, rfl, hsk⟩ := hrel
               have HS37 := hid hsk
               clear hsk
               by_cases hlt : k < wn
               · obtain ⟨x, b, o, hx, rfl, hc⟩ := (HD.out.2.2.2.1.below HS37.out.b rfl).at_ hlt
                 have hmem := List.mem_of_getElem? hx
                 have e0 := hc 0 _ rfl; have e1 := hc 1 _ rfl
                 simp only [Nat.add_zero] at e0
                 have HEV := hid (HOW.out x hmem); have HPRE := hid (take_flat wantN hx)
                 clear hc hx hmem
                 obtain ⟨xs, xb⟩ := x
                 simp only at e0 e1
                 have HE := hid (HS37.out.alloc #[.int .i64 xs, .int .i64 xb] 82)
                 have hq38 := HE.out.Q.1; have hlq38 := HE.out.Q.2.2
                 have hb38 := HE.out.box0.1; have hlb38 := HE.out.box0.2.2
                 go_wp2_with fail
                 refine (r_first ((w.heap.size + 2) + 1) (c 1) (Fst (es.flatMap (fun e => evN e (scan e)) ++ ds.flatMap (fun x => ordN x (dn x)) ++ ms.flatMap (fun x => matN x (mn x)) ++ (qs.take k).flatMap wantN) (1 : Nat)) xs _ (HE.out.o 1 (by decide)) HE.out.base (HE.out.len _)).mono ?_
                 rintro e w38 ⟨v38, rfl, h1, h2, h3⟩
                 obtain ⟨a38, l38, k38, rfl⟩ := h1.shp
                 obtain ⟨c38, hs38⟩ := HE.out.step (i := 1) (by decide) [((1 : Int), xs)] h1 h2 h3 (fun p hp => HEV.out p hp) (one_hy _ 1 _) (one_hoth _ 1 _)
                 have hcl := HE.out.called (i := 1) (by decide) h2
                 have HS38 := hid hs38
                 clear h1 h2 h3 hs38 e0 e1 hq38 hlq38 hb38 hlb38
                 have hcq38 := hcl.1; have hfq38 := hcl.2.1; have hlc38 := hcl.2.2
                 clear hcl
                 go_wp2_with fail
                 go_roundw
                 case rel => exact ⟨k + 1, _, by omega, by go_num, by rw [HPRE.out, ← List.append_assoc]; exact HS38.out.drop⟩
                 case measure => simp [RowKit.intOf]; omega
               · obtain rfl : wn = k := by omega
                 have HX37 := hid (show V4 w (w.heap.size + 2) c (es.flatMap (fun e => evN e (scan e)) ++ ds.flatMap (fun x => ordN x (dn x)) ++ ms.flatMap (fun x => matN x (mn x)) ++ qs.flatMap wantN) [(w.heap.size, #[ht.v, hs.v, ho.v, hp.v, .slice ea en ec, .slice da dn_ dc, .slice ma mn_ mc, .slice wa wn wc]), (w.heap.size + 1, #[.slice none 0 0, .slice none 0 0, .slice none 0 0, .slice none 0 0])] _ from by have := HS37.out; rwa [all_take (HD.out.2.2.2.1.len)] at this)
                 have hFIN : Hid (∀ Y, Same (fun i => i ≠ w.heap.size + 1) _ Y → RetS (spokenL es ds ms qs scan dn mn) w (.returned (.agg #[c 0, c 1, c 2, c 3])) Y) := hid (fun Y hY => ⟨c, rfl, fun i hi => by
                   have ho := (HX37.out.o i hi)
                   have ho' := ho.block (w' := Y) fun g hg => hY.block g (by have := (ho.lt g hg).1; omega) (ho.lt g hg).2
                   obtain ⟨a, cc, e, _, _⟩ := ho'.shape
                   rw [e] at ho'
                   exact ⟨a, _, cc, e, ho'.row (hc := cInsInt) (Nat.le_trans (HX37.out.len _) (by decide))⟩, hY.below HX37.out.b (fun i hi => by omega) HX37.out.b.size⟩)
                 have hQ := HX37.out.Q
                 have hb2 := HX37.out.bx (w.heap.size + 1) #[.slice none 0 0, .slice none 0 0, .slice none 0 0, .slice none 0 0] (by simp)
                 obtain ⟨a0, n0, k0, e0⟩ := (HX37.out.o 0 (by decide)).shp
                 obtain ⟨a1, n1, k1, e1⟩ := (HX37.out.o 1 (by decide)).shp
                 obtain ⟨a2, n2, k2, e2⟩ := (HX37.out.o 2 (by decide)).shp
                 obtain ⟨a3, n3, k3, e3⟩ := (HX37.out.o 3 (by decide)).shp
                 rw [e0, e1, e2, e3] at hQ hFIN
                 clear HX37 e0 e1 e2 e3
                 have hq0 := hQ.1; have hlq0 := hQ.2.2
                 have hc2 := hb2.1; have hf2 := hb2.2.1; have hl2 := hb2.2.2
                 clear hQ hb2
                 go_wp2_with fail
                 refine bodyPost_ret (v := .agg #[.slice a0 n0 k0, .slice a1 n1 k1, .slice a2 n2 k2, .slice a3 n3 k3]) (by simp [results, Tryz.results48, go_sem, hc2]) rfl (hFIN.out _ ?_)
                 repeat (first | (with_reducible exact Same.refl' _) | (refine Same.setTail ?_ (fun hn => hn rfl)))
end Yd
