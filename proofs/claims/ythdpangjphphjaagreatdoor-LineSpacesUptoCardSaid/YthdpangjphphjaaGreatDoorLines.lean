import Derived.Test.YthdpangjphphjaaGreatDoorLawSt
import Derived.Test.YthdpangjphphjaaGreatDoorRows
import Derived.ProofKit
import Derived.OpenShut
import Derived.Deep.Slices
import Derived.Test.YthdpangjphphjaaGreatDoorProg
import Derived.Test.YthdpangjphphjaaGreatDoorOwn
import Derived.Test.YthdpangjphphjaaGreatDoorOrdIn
import Derived.Test.YthdpangjphphjaaGreatDoorOrd
import Derived.BigQuiet
import Derived.Laws.BytesArg
set_option maxRecDepth 200000
set_option maxHeartbeats 8000000
namespace Yd
open Go Go.RowKit Go.Proofs Go.ChangeShapes Go.WideShapes Go.ChangeAt
open Go.Proofs.YthdpangjphphjaaGreatDoor.Rows (uptoBulk uptoBulkAll)

section
variable {H : Type} {enc : TypeId × Value → H} {w : World} {base : Nat} {spare : Nat → Bool} {held : Bool}
theorem bulk_mem {d : DataW H} {l : List (DataW H)} (h : d ∈ l) : uptoBulk d ≤ uptoBulkAll l := by
 induction l with
 | nil => cases h
 | cons x r ih =>
   simp only [uptoBulkAll]
   cases List.mem_cons.1 h with
   | inl e => subst e; omega
   | inr e => have := ih e; omega
theorem bulk_one (d : DataW H) : 1 ≤ uptoBulk d := by
 cases d with
 | lit l => cases l <;> simp [uptoBulk]
 | nil => simp [uptoBulk]
 | ptr d => simp [uptoBulk]
 | slice elems spare => simp [uptoBulk]
 | agg parts => simp [uptoBulk]
 | iface t d => simp [uptoBulk]
 | map entries => simp [uptoBulk]
 | held h => simp [uptoBulk]
theorem bulk_len (l : List (DataW H)) : l.length ≤ uptoBulkAll l := by
 induction l with
 | nil => simp [uptoBulkAll]
 | cons x r ih => have := bulk_one x; simp only [uptoBulkAll, List.length_cons]; omega
def RdAs {α : Type} (enc : TypeId × Value → H) (w : World) (base : Nat) (spare : Nat → Bool) (held : Bool) (N : Nat) (e : TypeId) (en : α → List Value) (Q : α → Prop) : Prop :=
 ∀ n cs y, DataW.trod enc Tryz.prog w base spare held n e cs = some y → uptoBulk y.1 ≤ N → ∃ x, cs = en x ∧ Q x
theorem pick_list {α : Type} {p : Nat → α → Prop} : ∀ (m : Nat), (∀ i, i < m → ∃ x, p i x) → ∃ xs : List α, xs.length = m ∧ ∀ i x, xs[i]? = some x → p i x
 | 0, _ => ⟨[], rfl, fun i x h => by simp at h⟩
 | m + 1, h => by
   obtain ⟨xs, hl, hx⟩ := pick_list m (fun i hi => h i (by omega))
   obtain ⟨x, hp⟩ := h m (by omega)
   refine ⟨xs ++ [x], by simp [hl], fun i y hy => ?_⟩
   rcases Nat.lt_or_ge i m with hi | hi
   · rw [List.getElem?_append_left (by omega)] at hy
     exact hx i y hy
   · rw [List.getElem?_append_right (by omega), hl] at hy
     have : i = m := by
       rcases Nat.lt_or_ge (i - m) 1 with h1 | h1
       · omega
       · rw [List.getElem?_eq_none (by simpa using h1)] at hy; cases hy
     subst this
     simp at hy
     subst hy
     exact hp
theorem spot_none {w : World} {a : Addr} {v : Value} (h : w.cell? a = some v) : a.spot = none := by
 unfold World.cell? at h
 split at h
 · split at h
   · cases h
   · rename_i hs
     cases hsp : a.spot with
     | none => rfl
     | some x => rw [hsp] at hs; exact absurd rfl hs
 · cases h
theorem down_slice {α : Type} {en : α → List Value} {k : Nat} [hc : Cells en k] {t e : TypeId} {Q : α → Prop} {N : Nat} (hN : N ≤ 140737488355328) (ht : Tryz.prog.underlying t = some (.slice e)) (hk : Tryz.prog.cellsOf e = k) (hr : RdAs enc w base spare held N e en Q)
   {n : Nat} {cs : List Value} {y : DataW H × List MemPlace} (h : DataW.trod enc Tryz.prog w base spare held n t cs = some y) (hb : uptoBulk y.1 ≤ N) :
   ∃ s : Sl, ∃ xs : List α, cs = [s.v] ∧ Row w k en s.a s.n s.c xs ∧ xs.length ≤ N ∧ ∀ x ∈ xs, Q x := by
 rcases DataW.trod_slice ht h with ⟨rfl, rfl⟩ | ⟨a, len, cap, elems, rest, n', rfl, rfl, rfl, hba, hl, hm, hel, hget, _, _⟩
 · exact ⟨⟨none, 0, 0⟩, [], rfl, Row.nil_, Nat.zero_le _, fun x hx => by cases hx⟩
 · have hbulk : uptoBulkAll (elems.map (·.1)) ≤ N := by simp only [uptoBulk] at hb; omega
   have hlen : len ≤ N := by
     have := bulk_len (elems.map (·.1))
     rw [List.length_map, hel] at this
     omega
   obtain ⟨xs, hxl, hx⟩ := pick_list (p := fun i x => (∀ j v, (en x)[j]? = some v → w.cell? (a.add (i * k + j)) = some v) ∧ Q x) len (fun i hi => by
     have hg := hget i hi
     rw [List.getElem?_eq_getElem (by omega)] at hg
     obtain ⟨cs', h1, h2⟩ := Option.bind_eq_some_iff.1 hg
     obtain ⟨x, rfl, hq⟩ := hr _ _ _ h2 (Nat.le_trans (bulk_mem (List.mem_map.2 ⟨_, List.getElem_mem (by omega), rfl⟩)) hbulk)
     obtain ⟨_, hl', hcell⟩ := World.cells?_some h1
     refine ⟨x, fun j v hv => ?_, hq⟩
     have hj : j < k := by have := (List.getElem?_eq_some_iff.1 hv).1; rw [hc.len] at this; exact this
     have := hcell j (by rw [hk]; exact hj)
     rw [Go.Deep.add_add, hk, hv] at this
     exact this)
   refine ⟨⟨some a, len, cap⟩, xs, rfl, ⟨hxl, hl, Nat.le_trans hlen hN, fun h => (by cases h), fun i x hxi => ?_⟩, by omega, fun x hxm => ?_⟩
   · have hi : i < xs.length := (List.getElem?_eq_some_iff.1 hxi).1
     have hsp : a.spot = none := by
       obtain ⟨x0, hx0⟩ : ∃ x0, xs[0]? = some x0 := ⟨_, List.getElem?_eq_getElem (by omega)⟩
       have hp := hc.pos
       obtain ⟨v0, hv0⟩ : ∃ v0, (en x0)[0]? = some v0 := ⟨_, List.getElem?_eq_getElem (by rw [hc.len]; exact hp)⟩
       have := (hx 0 x0 hx0).1 0 v0 hv0
       rw [Nat.zero_mul, Nat.add_zero] at this
       exact spot_none this
     refine ⟨a.block, a.off, by obtain ⟨b, o, s⟩ := a; simp only at hsp; rw [hsp], fun j v hv => ?_⟩
     have := (hx i x hxi).1 j v hv
     unfold Addr.add at this
     split at this
     · rename_i h0
       rw [show a.off + i * k + j = a.off by omega]
       obtain ⟨b, o, s⟩ := a
       simp only at hsp
       rw [hsp] at this
       exact this
     · rw [Nat.add_assoc]; exact this
   · obtain ⟨i, hi⟩ := List.mem_iff_getElem?.1 hxm
     exact (hx i x hi).2
variable {N : Nat}
theorem rd_str : RdAs enc w base spare held N 9 encStr (fun _ => True) := fun n cs y h _ => by
 obtain ⟨s, rfl, _, _⟩ := DataW.trod_string Tryz.underlying9 h
 exact ⟨s.data.toList, by simp [encStr], trivial⟩
theorem rd_bool {n : Nat} {cs : List Value} {y : DataW H × List MemPlace} (h : DataW.trod enc Tryz.prog w base spare held n 4 cs = some y) : ∃ b, cs = [.bool b] := by
 obtain ⟨b, rfl, _⟩ := DataW.trod_bool Tryz.underlying4 h
 exact ⟨b, rfl⟩
theorem c_int : Tryz.prog.cellsOf 3 = 1 := by kernel_rfl
theorem c_str : Tryz.prog.cellsOf 9 = 1 := by kernel_rfl
theorem c_bool : Tryz.prog.cellsOf 4 = 1 := by kernel_rfl
theorem c_sstr : Tryz.prog.cellsOf 25 = 1 := by kernel_rfl
end
end Yd


namespace Yd
open Go Go.RowKit Go.Proofs

theorem cloneStr (a : Option Addr) (c : Nat) (cs : List Bs) (w : World) (hr : Row w 1 encStr a cs.length c cs) (hby : cs.length * 16 ≤ 140737488355328) :
   Calls Tryz.prog 37 #[.slice a cs.length c] w (RetOwn 9 1 encStr cs w) := by
 have hm : cs.length ≤ maxLen := by have := hr.le; unfold maxLen; omega
 have hsn := fun (w : World) (n c : Nat) => @Lib.run_eql_slice_nil Tryz.prog w 25 9 a n c 0 0 Tryz.underlying25
 cases a with
 | none =>
   obtain ⟨rfl, _, rfl⟩ := hr.none_
   go_enter Tryz.func37, Tryz.ntmps37
   go_wp2_with fail
   go_ret
   exact ⟨none, 0, rfl, Own.nil_ _ _ _ _ _, Below.refl _ _⟩
 | some ad =>
   obtain ⟨i, z, hi, hz, hsize, hby', hzs⟩ := partsStr
   have hr1 : Row (w.alloc (.cells #[] 9)) 1 encStr (some ad) cs.length c cs := hr.below ((Below.refl _ _).alloc (Nat.le_refl _) _) rfl
   have HO := Own.new (hc := cInsStr) w w.heap.size 9 (enc := encStr) #[] [] (Nat.le_refl _) rfl (Nat.zero_le _)
   have HB : Below w.heap.size w (w.alloc (.cells #[] 9)) := (Below.refl _ _).alloc (Nat.le_refl _) _
   have HR := hid hr1; have HC := hid hr; have HOH := hid HO; have HBH := hid HB
   clear hr hr1 HO HB
   go_enter Tryz.func37, Tryz.ntmps37
   go_wp2_with (at_builtin; refine wpList_app rfl _ _ 25 rfl i z 16 Tryz.underlying25 hi hz hsize hby' hzs rfl HOH.out (some ad) cs.length c cs.length cs rfl HR.out (by simp) hby hm (by simp) ?_; intro a' c' w1 hown1 hg1 hat1)
   go_ret
   exact ⟨a', c', rfl, hown1, below_app HBH.out HOH.out (Nat.le_refl _) (by simp) hg1⟩

theorem cloneTo (a : Option Addr) (c : Nat) (cs : List To) (w : World) (hr : Row w 2 encTo a cs.length c cs) (hby : cs.length * 24 ≤ 140737488355328) :
   Calls Tryz.prog 38 #[.slice a cs.length c] w (RetOwn 67 2 encTo cs w) := by
 have hm : cs.length ≤ maxLen := by have := hr.le; unfold maxLen; omega
 have hsn := fun (w : World) (n c : Nat) => @Lib.run_eql_slice_nil Tryz.prog w 26 67 a n c 0 0 Tryz.underlying26
 cases a with
 | none =>
   obtain ⟨rfl, _, rfl⟩ := hr.none_
   go_enter Tryz.func38, Tryz.ntmps38
   go_wp2_with fail
   go_ret
   exact ⟨none, 0, rfl, Own.nil_ _ _ _ _ _, Below.refl _ _⟩
 | some ad =>
   obtain ⟨i, z, hi, hz, hsize, hby', hzs⟩ := partsTo
   have hr1 : Row (w.alloc (.cells #[] 67)) 2 encTo (some ad) cs.length c cs := hr.below ((Below.refl _ _).alloc (Nat.le_refl _) _) rfl
   have HO := Own.new (hc := cInsTo) w w.heap.size 67 (enc := encTo) #[] [] (Nat.le_refl _) rfl (Nat.zero_le _)
   have HB : Below w.heap.size w (w.alloc (.cells #[] 67)) := (Below.refl _ _).alloc (Nat.le_refl _) _
   have HR := hid hr1; have HC := hid hr; have HOH := hid HO; have HBH := hid HB
   clear hr hr1 HO HB
   go_enter Tryz.func38, Tryz.ntmps38
   go_wp2_with (at_builtin; refine wpList_app rfl _ _ 26 rfl i z 24 Tryz.underlying26 hi hz hsize hby' hzs rfl HOH.out (some ad) cs.length c cs.length cs rfl HR.out (by simp) hby hm (by simp) ?_; intro a' c' w1 hown1 hg1 hat1)
   go_ret
   exact ⟨a', c', rfl, hown1, below_app HBH.out HOH.out (Nat.le_refl _) (by simp) hg1⟩

end Yd


namespace Yd
open Go Go.RowKit Go.Proofs

def mostR (r : Int) : Int := if r = 115 then 40 else if r = 116 ∨ r = 109 then 300 else 0
structure LineW (w : World) (na : Option Addr) (nn nc : Nat) (va : Option Addr) (vn vc : Nat) (names : List Bs) (vers : List To) : Prop where
 rn : Row w 1 encStr na nn nc names
 rv : Row w 2 encTo va vn vc vers
 wn : ∀ s ∈ names, wordB ⟨s.toArray⟩ = true
 wv : ∀ t ∈ vers, toOk t
 g : GlobL w
 T : Lib.Utf8Tabs 2 3 w
theorem LineW.below {w w' : World} {na : Option Addr} {nn nc : Nat} {va : Option Addr} {vn vc : Nat} {names : List Bs} {vers : List To} (h : LineW w na nn nc va vn vc names vers) (hb : Below w.heap.size w w') : LineW w' na nn nc va vn vc names vers :=
 ⟨h.rn.below hb rfl, h.rv.below hb rfl, h.wn, h.wv, h.g.below hb, Utf8Tabs_below h.T hb⟩
theorem call_c1 : ∀ args w, (callFunc 50 args).run Tryz.prog w = .ok (.enter 50 args) w := enters_of Tryz.func50 (by kernel_rfl) rfl
theorem call_c2 : ∀ args w, (callFunc 53 args).run Tryz.prog w = .ok (.enter 53 args) w := enters_of Tryz.func53 (by kernel_rfl) rfl
theorem LineW.names {w : World} {na : Option Addr} {nn nc : Nat} {va : Option Addr} {vn vc : Nat} {names : List Bs} {vers : List To} (h : LineW w na nn nc va vn vc names vers) :
   Calls Tryz.prog 52 #[.slice na nn nc, .func (.func 53) #[] #[]] w (Ret (.bool false) w) := by
 have := contStr na nn nc 53 #[] names (fun s => !wordB ⟨s.toArray⟩) w h.rn call_c2 (fun x _ W hb => by simpa using check2_any x W (Utf8Tabs_below h.T hb))
 rwa [List.any_eq_false.2 (fun s hs => by simp [h.wn s hs])] at this
theorem LineW.vers {w : World} {na : Option Addr} {nn nc : Nat} {va : Option Addr} {vn vc : Nat} {names : List Bs} {vers : List To} (h : LineW w na nn nc va vn vc names vers) :
   Calls Tryz.prog 49 #[.slice va vn vc, .func (.func 50) #[] #[]] w (Ret (.bool false) w) := by
 have := contTo va vn vc 50 #[] vers (fun _ => false) w h.rv call_c1 (fun x hx W hb => by simpa using check1_ok x W (Utf8Tabs_below h.T hb) (h.wv x hx))
 rwa [List.any_eq_false.2 (fun s hs => by simp)] at this
theorem most_any (r : Int) (w : World) : Calls Tryz.prog 48 #[.int .i32 r] w (Ret (.int .i64 (mostR r)) w) := by
 by_cases h1 : r = 115
 · subst h1
   go_enter Tryz.func48, Tryz.ntmps48
   go_wp2_with fail
   go_ret
   exact ⟨rfl, Below.refl _ _⟩
 · have e1 : (r == 115) = false := beq_eq_false_iff_ne.2 h1
   by_cases h2 : r = 116
   · subst h2
     go_enter Tryz.func48, Tryz.ntmps48
     go_wp2_with fail
     go_ret
     exact ⟨rfl, Below.refl _ _⟩
   · have e2 : (r == 116) = false := beq_eq_false_iff_ne.2 h2
     by_cases h3 : r = 109
     · subst h3
       go_enter Tryz.func48, Tryz.ntmps48
       go_wp2_with fail
       go_ret
       exact ⟨rfl, Below.refl _ _⟩
     · have e3 : (r == 109) = false := beq_eq_false_iff_ne.2 h3
       have hm : mostR r = 0 := by unfold mostR; rw [if_neg h1, if_neg (by omega)]
       rw [hm]
       go_enter Tryz.func48, Tryz.ntmps48
       go_wp2_with fail
       go_ret
       exact ⟨rfl, Below.refl _ _⟩
end Yd


namespace Yd
open Go Go.RowKit Go.Proofs

def encU8 (b : UInt8) : List Value := [.int .u8 (b.toNat : Int)]
instance cInsU8 : Cells encU8 1 := ⟨fun _ => rfl, by decide, fun x u h => by simp [encU8] at h; subst h; rfl⟩
theorem infoU8 : (Tryz.prog.info? 5).map (fun i => (i.zero.map (·.cells.size), i.size, i.bytes)) = some (some 1, 1, 1) := by kernel_rfl
theorem partsU8 : ∃ i z, Tryz.prog.info? 5 = some i ∧ i.zero = some z ∧ i.size = 1 ∧ i.bytes = 1 ∧ z.cells.size = 1 := parts_of infoU8

def digF : Nat → Nat → Bs
 | 0, _ => []
 | f + 1, n => if n = 0 then [] else digF f (n / 10) ++ [UInt8.ofNat (48 + n % 10)]
theorem digF_enough : ∀ (f g n : Nat), n ≤ f → n ≤ g → digF f n = digF g n
 | 0, 0, _, _, _ => rfl
 | 0, g + 1, n, hf, _ => by obtain rfl : n = 0 := by omega
                            simp [digF]
 | f + 1, 0, n, _, hg => by obtain rfl : n = 0 := by omega
                            simp [digF]
 | f + 1, g + 1, n, hf, hg => by
   simp only [digF]
   split
   · rfl
   · rw [digF_enough f g (n / 10) (by omega) (by omega)]
def digs (n : Nat) : Bs := digF n n
theorem digs_step {n : Nat} (h : 0 < n) : digs n = digs (n / 10) ++ [UInt8.ofNat (48 + n % 10)] := by
 obtain ⟨m, rfl⟩ : ∃ m, n = m + 1 := ⟨n - 1, by omega⟩
 show digF (m + 1) (m + 1) = _
 simp only [digF]
 rw [if_neg (by omega), digF_enough m ((m + 1) / 10) _ (by omega) (Nat.le_refl _)]
 rfl
theorem digs_len : ∀ (d n : Nat), n < 10 ^ d → (digs n).length ≤ d
 | d, 0, _ => by simp [digs, digF]
 | 0, n + 1, h => by simp at h
 | d + 1, n + 1, h => by
   rw [digs_step (by omega), List.length_append, List.length_singleton]
   have := digs_len d ((n + 1) / 10) (by rw [Nat.pow_succ] at h; omega)
   omega

theorem Own.newU8 (X : World) (B m : Nat) (hB : B ≤ X.heap.size) : Own (X.alloc (.cells #[.int .u8 (48 + (m : Int) % 10)] 5)) B 5 1 encU8 (.slice (some ⟨X.heap.size, 0, none⟩) 1 1) [UInt8.ofNat (48 + m % 10)] :=
 Own.new (hc := cInsU8) X B 5 #[.int .u8 (48 + (m : Int) % 10)] [UInt8.ofNat (48 + m % 10)] hB (by
   simp [encU8]; omega) (by simp [maxLen])

theorem digit_Text (n : Nat) (h1 : 1 ≤ n) (hn : n ≤ 100000) (w : World) : Calls Tryz.prog 102 #[.int .i64 n] w (Ret (.string ⟨(digs n).toArray⟩) w) := by
 obtain ⟨i, z, hi, hz, hsize, hby', hzs⟩ := partsU8
 have HI := hid (⟨hi, hz, hsize, hby', hzs⟩ : _ ∧ _ ∧ _ ∧ _ ∧ _)
 clear hi hz hsize hby' hzs
 go_enter Tryz.func102, Tryz.ntmps102
 go_wp2_with fail
 go_loopw [3, 4, 5] (fun v o b wr => ∃ (m : Nat) (a0 : Option Addr) (c0 : Nat) (ds : Bs) (f : Bool), v = .int .u64 m ∧ o = .slice a0 ds.length c0 ∧ b = .bool f ∧ digs n = digs m ++ ds ∧ (f = true → 0 < m) ∧ m ≤ n ∧ ds.length ≤ n ∧ ds.length + m ≤ n ∧
     Own wr w.heap.size 5 1 encU8 (.slice a0 ds.length c0) ds ∧ Below w.heap.size w wr) (fun v _ _ _ => (RowKit.intOf v).toNat)
 case atStart => exact ⟨n, none, 0, [], true, rfl, rfl, rfl, by simp, fun _ => by omega, Nat.le_refl _, Nat.zero_le _, by simp, Own.nil_ _ _ _ _ _, Below.refl _ _⟩
 case round =>
   obtain ⟨m, a0, c0, ds, f, rfl, rfl, rfl, hd, hf, hm, hl, hlm, how, hbw⟩ := hrel
   by_cases h0 : 0 < m
   · have HOW := hid how; have HBW := hid hbw; have HD := hid hd
     have HGT : ((10 : Int) > 0) := by decide
     clear how hbw hd
     have hm0 : ((m : Int) > 0) := by omega
     have HNW := hid (Own.newU8 wr w.heap.size m HBW.out.size)
     have HROW := hid ((HOW.out.below (belowA (Below.refl _ _) (.cells #[.int .u8 (48 + (m : Int) % 10)] 5)) rfl).row (by omega))
     have HN1 : Hid ([UInt8.ofNat (48 + m % 10)].length + ds.length = 1 + ds.length) := hid rfl
     have HN2 : Hid ((1 + ds.length) * 1 ≤ 140737488355328) := hid (by omega)
     have HN3 : Hid (1 + ds.length ≤ maxLen) := hid (by unfold maxLen; omega)
     have HN4 : Hid (w.heap.size ≤ (wr.alloc (.cells #[.int .u8 (48 + (m : Int) % 10)] 5)).heap.size) := hid (by have := HBW.out.size; simp; omega)
     have HB2 := hid ((HBW.out).alloc HBW.out.size (.cells #[.int .u8 (48 + (m : Int) % 10)] 5))
     have HD2 : Hid (digs n = digs (m / 10) ++ (UInt8.ofNat (48 + m % 10) :: ds)) := hid (by rw [HD.out, digs_step h0, List.append_assoc]; rfl)
     clear hf
     cases f
     · go_wp2_with (at_builtin; refine wpList_app rfl _ _ 99 rfl i z 1 Tryz.underlying99 HI.out.1 HI.out.2.1 HI.out.2.2.1 HI.out.2.2.2.1 HI.out.2.2.2.2 rfl HNW.out a0 ds.length c0 (1 + ds.length) ds rfl HROW.out HN1.out HN2.out HN3.out HN4.out ?_; intro a' c' w1 hown1 hg1 hat1)
       have HR1 := hid (⟨hown1, below_app HB2.out HNW.out (Nat.le_refl _) HN4.out hg1⟩ : _ ∧ _)
       clear hown1 hg1 hat1
       go_roundw
       case rel => exact ⟨m / 10, a', c', UInt8.ofNat (48 + m % 10) :: ds, false, by go_num, by rw [List.length_cons, Nat.add_comm], rfl, HD2.out, fun h => (by cases h), by omega, by rw [List.length_cons]; omega, by rw [List.length_cons]; omega, by rw [List.length_cons, Nat.add_comm]; exact HR1.out.1, HR1.out.2⟩
       case measure => simp [RowKit.intOf]; omega
     · go_wp2_with (at_builtin; refine wpList_app rfl _ _ 99 rfl i z 1 Tryz.underlying99 HI.out.1 HI.out.2.1 HI.out.2.2.1 HI.out.2.2.2.1 HI.out.2.2.2.2 rfl HNW.out a0 ds.length c0 (1 + ds.length) ds rfl HROW.out HN1.out HN2.out HN3.out HN4.out ?_; intro a' c' w1 hown1 hg1 hat1)
       have HR1 := hid (⟨hown1, below_app HB2.out HNW.out (Nat.le_refl _) HN4.out hg1⟩ : _ ∧ _)
       clear hown1 hg1 hat1
       go_roundw
       case rel => exact ⟨m / 10, a', c', UInt8.ofNat (48 + m % 10) :: ds, false, by go_num, by rw [List.length_cons, Nat.add_comm], rfl, HD2.out, fun h => (by cases h), by omega, by rw [List.length_cons]; omega, by rw [List.length_cons]; omega, by rw [List.length_cons, Nat.add_comm]; exact HR1.out.1, HR1.out.2⟩
       case measure => simp [RowKit.intOf]; omega
   · obtain rfl : m = 0 := by omega
     obtain rfl : f = false := by cases f; rfl; exact absurd (hf rfl) (by omega)
     obtain rfl : ds = digs n := by simpa [digs, digF] using hd.symm
     have hpos : 0 < (digs n).length := by rw [digs_step (by omega)]; simp
     have hrow := how.row (by omega)
     obtain ⟨_, bb, oo, _, rfl, _⟩ := hrow.at_ hpos
     have hcv : (convert 99 9 (.slice (some ⟨bb, oo, none⟩) (digs n).length c0)).run Tryz.prog wr = .ok (.string (strOfNums ((digs n).map (fun u => (u.toNat : Int))))) wr :=
       run_convert_bytes_arg wr 99 5 Tryz.underlying99 Tryz.underlying5 bb oo _ c0 ((digs n).map (fun u => (u.toNat : Int))) (by simp) (fun i hi => by
         obtain ⟨x, b', o', hx, hab, hc⟩ := hrow.at_ hi
         cases hab
         have := hc 0 _ rfl
         rw [Nat.mul_one, Nat.add_zero] at this
         rw [this, List.getD_eq_getElem?_getD, List.getElem?_map, hx]; rfl) 9 Tryz.underlying9
     have hst : strOfNums ((digs n).map (fun u => (u.toNat : Int))) = ⟨(digs n).toArray⟩ := by
       unfold strOfNums
       rw [List.map_map]
       congr 2
       conv => rhs; rw [← List.map_id (digs n)]
       apply List.map_congr_left
       intro u _
       simp
     rw [hst] at hcv
     have HBW := hid hbw
     clear how hbw hd hrow hst hpos
     go_wp2_with fail
     go_ret
     exact ⟨rfl, HBW.out⟩
end Yd


namespace Yd
open Go Go.RowKit Go.Proofs

theorem cat2 (a b : Bs) : (⟨a.toArray⟩ ++ ⟨b.toArray⟩ : ByteArray) = ⟨(a ++ b).toArray⟩ := by
 apply ByteArray.ext; simp
theorem cat3 (a b c : Bs) : (⟨a.toArray⟩ ++ ⟨b.toArray⟩ ++ ⟨c.toArray⟩ : ByteArray) = ⟨(a ++ (b ++ c)).toArray⟩ := by
 rw [cat2, cat2, List.append_assoc]
def toldT (t : To) : Bs := if t.k = 0 then [45] else t.name ++ 46 :: digs t.k.toNat

theorem line_told (t : To) (h0 : 0 ≤ t.k) (h9 : t.k ≤ 999) (hn : t.name.length ≤ 100000) (w : World) : Calls Tryz.prog 45 #[valTo t] w (Ret (.string ⟨(toldT t).toArray⟩) w) := by
 obtain ⟨n, k⟩ := t
 simp only at h0 h9 hn
 obtain ⟨m, rfl⟩ : ∃ m : Nat, k = m := ⟨k.toNat, by omega⟩
 by_cases hm : m = 0
 · subst hm
   go_enter Tryz.func45, Tryz.ntmps45
   go_wp2_with fail
   go_ret
   exact ⟨rfl, belowA (Below.refl _ _) _⟩
 · have hk : ((m : Int) == 0) = false := beq_eq_false_iff_ne.2 (by omega)
   have hq : toldT ⟨n, m⟩ = n ++ 46 :: digs m := by
     unfold toldT
     rw [if_neg (by simpa using hm), Int.toNat_natCast]
   rw [hq]
   have HD := fun W => hid (digit_Text m (by omega) (by omega) W)
   have HB := hid (belowA (Below.refl w.heap.size w) (.cells #[.string ⟨n.toArray⟩, .int .i64 m] 67))
   have HX := hid (Bx.new w #[.string ⟨n.toArray⟩, .int .i64 m] 67)
   have hd3 : (digs m).length ≤ 3 := digs_len 3 m (by omega)
   have hN1 : ¬ (9223372036854775807 < n.length + 1) := by omega
   have hN2 : ¬ (9223372036854775807 < n.length + 1 + (digs m).length) := by omega
   clear hq h0 h9
   go_enter Tryz.func45, Tryz.ntmps45
   go_wp2_with fail
   refine wp_region_ordC 8 [(0, 0), (1, 0), (2, 0), (3, 0), (4, 0), (5, 2), (6, 0), (7, 0)] (fun _ => True) (fun W' => W'.cell? ⟨w.heap.size, 0, none⟩ = some (.string ⟨n.toArray⟩) ∧ W'.cell? ⟨w.heap.size, 1, none⟩ = some (.int .i64 m)) (by kernel_rfl) (by kernel_rfl) (trivial) (⟨HX.out.1 0, HX.out.1 1⟩) ?_
   repeat ((first | refine ordC_skip rfl rfl ?_ | refine ordC_skip1 rfl rfl ?_ | ((first | refine ordC_q rfl rfl ?_ | refine ordC_p rfl rfl ?_); apply Exists.intro; refine ⟨fun wS hS => ?_, ?_⟩; (go_simp; try with_reducible rfl))); simp only [Act.put, List.setIfInBounds_toArray, List.set_cons_zero, List.set_cons_succ])
   refine ordC_l rfl rfl (fun K hK => ?_)
   go_simp
   refine (HD _).out.mono ?_
   rintro en w2 ⟨rfl, hb2⟩
   have HB2 := hid (HB.out.drew.trans (hb2.mono HB.out.drew.size))
   refine hK _ _ ⟨trivial, (HX.out.drew.keep hb2).1 0, (HX.out.drew.keep hb2).1 1⟩ ?_
   clear hK K hb2
   repeat ((first | refine ordC_skip rfl rfl ?_ | refine ordC_skip1 rfl rfl ?_ | ((first | refine ordC_q rfl rfl ?_ | refine ordC_p rfl rfl ?_); apply Exists.intro; refine ⟨fun wS hS => ?_, ?_⟩; (go_simp; try with_reducible rfl))); simp only [Act.put, List.setIfInBounds_toArray, List.set_cons_zero, List.set_cons_succ])
   refine ordC_nil ?_
   go_wp2_with fail
   go_ret
   exact ⟨congrArg (fun s => Ending.returned (.string s)) (cat3 n [46] (digs m)), HB2.out⟩
end Yd


namespace Yd
open Go Go.RowKit Go.Proofs

structure ScanAt (h : HC) (l : LnC) (w0 w : World) (Lk : LnC) (ns : List Bs) (vs : List To) (X : World) : Prop where
 b0 : Bx X w.heap.size (cellsH h)
 b1 : Bx X (w.heap.size + 1) (cellsLn Lk)
 b3 : Bx X (w.heap.size + 3) #[.int .i64 0, .slice none 0 0, .int .i64 0, .slice none 0 0, .bool false, .int .i64 0]
 on : Own X w0.heap.size 9 1 encStr (.slice Lk.na Lk.nn Lk.nc) ns
 ov : Own X w0.heap.size 67 2 encTo (.slice Lk.va Lk.vn Lk.vc) vs
 fn : ∀ g, (Value.slice Lk.na Lk.nn Lk.nc).ownBlock = some g → g < w.heap.size ∨ w.heap.size + 4 ≤ g
 fv : ∀ g, (Value.slice Lk.va Lk.vn Lk.vc).ownBlock = some g → g < w.heap.size ∨ w.heap.size + 4 ≤ g
 be : Below w0.heap.size w0 X
 kw : Kept w l X
 gr : Grew w l Lk
 sz : w.heap.size + 4 ≤ X.heap.size
end Yd


namespace Yd
open Go Go.RowKit Go.Proofs

theorem Own.strs {X : World} {g : Nat} (h : X.heap.size = g) (l : List Bs) (hl : l.length ≤ maxLen) : Own (X.alloc (.cells (l.map (fun s => Value.string ⟨s.toArray⟩)).toArray 9)) g 9 1 encStr (.slice (some ⟨g, 0, none⟩) l.length l.length) l := by
 subst h
 exact Own.new (hc := cInsStr) X X.heap.size 9 _ l (Nat.le_refl _) (by
   show l.map (fun s => Value.string ⟨s.toArray⟩) = l.flatMap encStr
   induction l with
   | nil => rfl
   | cons a l ih => rw [List.map_cons, List.flatMap_cons, ih (by simp at hl; omega)]; rfl) hl

end Yd
