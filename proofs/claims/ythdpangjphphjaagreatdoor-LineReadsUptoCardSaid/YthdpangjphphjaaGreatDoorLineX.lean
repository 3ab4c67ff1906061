import Derived.Test.YthdpangjphphjaaGreatDoorLawSt
import Derived.Test.YthdpangjphphjaaGreatDoorRows
import Derived.ProofKit
import Derived.OpenShut
import Derived.Deep.Slices
import Derived.Test.YthdpangjphphjaaGreatDoorProg
import Derived.Test.YthdpangjphphjaaGreatDoorInfo
import Derived.Test.YthdpangjphphjaaGreatDoorShape
import Derived.BigQuiet
import Derived.Laws.BytesArg
import Derived.Test.YthdpangjphphjaaGreatDoorCheck
import Derived.Test.YthdpangjphphjaaGreatDoorShelf
import Derived.Lib.Join
set_option maxRecDepth 200000
set_option maxHeartbeats 8000000
namespace Yd
open Go Go.RowKit Go.Proofs Go.ChangeShapes Go.WideShapes Go.ChangeAt
open Go.Proofs.YthdpangjphphjaaGreatDoor.Rows (uptoBulk uptoBulkAll)

section
variable {H : Type} {enc : TypeId × Value → H} {w : World} {base : Nat} {spare : Nat → Bool} {held : Bool}
theorem bulk_mem {d : DataW H} {l : List (DataW H)} (h : d ∈ l) : uptoBulk d ≤ uptoBulkAll l := by
 induction l with
 | nil => cases h
 | cons x r ih =>
   simp only [uptoBulkAll]
   cases List.mem_cons.1 h with
   | inl e => subst e; omega
   | inr e => have := ih e; omega
theorem bulk_one (d : DataW H) : 1 ≤ uptoBulk d := by
 cases d with
 | lit l => cases l <;> simp [uptoBulk]
 | nil => simp [uptoBulk]
 | ptr d => simp [uptoBulk]
 | slice elems spare => simp [uptoBulk]
 | agg parts => simp [uptoBulk]
 | iface t d => simp [uptoBulk]
 | map entries => simp [uptoBulk]
 | held h => simp [uptoBulk]
theorem bulk_len (l : List (DataW H)) : l.length ≤ uptoBulkAll l := by
 induction l with
 | nil => simp [uptoBulkAll]
 | cons x r ih => have := bulk_one x; simp only [uptoBulkAll, List.length_cons]; omega
def RdAs {α : Type} (enc : TypeId × Value → H) (w : World) (base : Nat) (spare : Nat → Bool) (held : Bool) (N : Nat) (e : TypeId) (en : α → List Value) (Q : α → Prop) : Prop :=
 ∀ n cs y, DataW.trod enc Tryz.prog w base spare held n e cs = some y → uptoBulk y.1 ≤ N → ∃ x, cs = en x ∧ Q x
theorem pick_list {α : Type} {p : Nat → α → Prop} : ∀ (m : Nat), (∀ i, i < m → ∃ x, p i x) → ∃ xs : List α, xs.length = m ∧ ∀ i x, xs[i]? = some x → p i x
 | 0, _ => ⟨[], rfl, fun i x h => by simp at h⟩
 | m + 1, h => by
   obtain ⟨xs, hl, hx⟩ := pick_list m (fun i hi => h i (by omega))
   obtain ⟨x, hp⟩ := h m (by omega)
   refine ⟨xs ++ [x], by simp [hl], fun i y hy => ?_⟩
   rcases Nat.lt_or_ge i m with hi | hi
   · rw [List.getElem?_append_left (by omega)] at hy
     exact hx i y hy
   · rw [List.getElem?_append_right (by omega), hl] at hy
     have : i = m := by
       rcases Nat.lt_or_ge (i - m) 1 with h1 | h1
       · omega
       · rw [List.getElem?_eq_none (by simpa using h1)] at hy; cases hy
     subst this
     simp at hy
     subst hy
     exact hp
theorem spot_none {w : World} {a : Addr} {v : Value} (h : w.cell? a = some v) : a.spot = none := by
 unfold World.cell? at h
 split at h
 · split at h
   · cases h
   · rename_i hs
     cases hsp : a.spot with
     | none => rfl
     | some x => rw [hsp] at hs; exact absurd rfl hs
 · cases h
theorem down_slice {α : Type} {en : α → List Value} {k : Nat} [hc : Cells en k] {t e : TypeId} {Q : α → Prop} {N : Nat} (hN : N ≤ 140737488355328) (ht : Tryz.prog.underlying t = some (.slice e)) (hk : Tryz.prog.cellsOf e = k) (hr : RdAs enc w base spare held N e en Q)
   {n : Nat} {cs : List Value} {y : DataW H × List MemPlace} (h : DataW.trod enc Tryz.prog w base spare held n t cs = some y) (hb : uptoBulk y.1 ≤ N) :
   ∃ s : Sl, ∃ xs : List α, cs = [s.v] ∧ Row w k en s.a s.n s.c xs ∧ xs.length ≤ N ∧ ∀ x ∈ xs, Q x := by
 rcases DataW.trod_slice ht h with ⟨rfl, rfl⟩ | ⟨a, len, cap, elems, rest, n', rfl, rfl, rfl, hba, hl, hm, hel, hget, _, _⟩
 · exact ⟨⟨none, 0, 0⟩, [], rfl, Row.nil_, Nat.zero_le _, fun x hx => by cases hx⟩
 · have hbulk : uptoBulkAll (elems.map (·.1)) ≤ N := by simp only [uptoBulk] at hb; omega
   have hlen : len ≤ N := by
     have := bulk_len (elems.map (·.1))
     rw [List.length_map, hel] at this
     omega
   obtain ⟨xs, hxl, hx⟩ := pick_list (p := fun i x => (∀ j v, (en x)[j]? = some v → w.cell? (a.add (i * k + j)) = some v) ∧ Q x) len (fun i hi => by
     have hg := hget i hi
     rw [List.getElem?_eq_getElem (by omega)] at hg
     obtain ⟨cs', h1, h2⟩ := Option.bind_eq_some_iff.1 hg
     obtain ⟨x, rfl, hq⟩ := hr _ _ _ h2 (Nat.le_trans (bulk_mem (List.mem_map.2 ⟨_, List.getElem_mem (by omega), rfl⟩)) hbulk)
     obtain ⟨_, hl', hcell⟩ := World.cells?_some h1
     refine ⟨x, fun j v hv => ?_, hq⟩
     have hj : j < k := by have := (List.getElem?_eq_some_iff.1 hv).1; rw [hc.len] at this; exact this
     have := hcell j (by rw [hk]; exact hj)
     rw [Go.Deep.add_add, hk, hv] at this
     exact this)
   refine ⟨⟨some a, len, cap⟩, xs, rfl, ⟨hxl, hl, Nat.le_trans hlen hN, fun h => (by cases h), fun i x hxi => ?_⟩, by omega, fun x hxm => ?_⟩
   · have hi : i < xs.length := (List.getElem?_eq_some_iff.1 hxi).1
     have hsp : a.spot = none := by
       obtain ⟨x0, hx0⟩ : ∃ x0, xs[0]? = some x0 := ⟨_, List.getElem?_eq_getElem (by omega)⟩
       have hp := hc.pos
       obtain ⟨v0, hv0⟩ : ∃ v0, (en x0)[0]? = some v0 := ⟨_, List.getElem?_eq_getElem (by rw [hc.len]; exact hp)⟩
       have := (hx 0 x0 hx0).1 0 v0 hv0
       rw [Nat.zero_mul, Nat.add_zero] at this
       exact spot_none this
     refine ⟨a.block, a.off, by obtain ⟨b, o, s⟩ := a; simp only at hsp; rw [hsp], fun j v hv => ?_⟩
     have := (hx i x hxi).1 j v hv
     unfold Addr.add at this
     split at this
     · rename_i h0
       rw [show a.off + i * k + j = a.off by omega]
       obtain ⟨b, o, s⟩ := a
       simp only at hsp
       rw [hsp] at this
       exact this
     · rw [Nat.add_assoc]; exact this
   · obtain ⟨i, hi⟩ := List.mem_iff_getElem?.1 hxm
     exact (hx i x hi).2
variable {N : Nat}
theorem rd_int : RdAs enc w base spare held N 3 encInt (fun _ => True) := fun n cs y h _ => by
 obtain ⟨i, rfl, _, _⟩ := DataW.trod_int Tryz.underlying3 h
 exact ⟨i, rfl, trivial⟩
theorem c_int : Tryz.prog.cellsOf 3 = 1 := by kernel_rfl
theorem c_str : Tryz.prog.cellsOf 9 = 1 := by kernel_rfl
end
end Yd


namespace Yd
open Go Go.RowKit Go.Proofs

end Yd


namespace Yd
open Go Go.RowKit Go.Proofs

def mostR (r : Int) : Int := if r = 115 then 40 else if r = 116 ∨ r = 109 then 300 else 0
structure LineW (w : World) (na : Option Addr) (nn nc : Nat) (va : Option Addr) (vn vc : Nat) (names : List Bs) (vers : List To) : Prop where
 rn : Row w 1 encStr na nn nc names
 rv : Row w 2 encTo va vn vc vers
 wn : ∀ s ∈ names, wordB ⟨s.toArray⟩ = true
 wv : ∀ t ∈ vers, toOk t
 g : GlobL w
 T : Lib.Utf8Tabs 2 3 w
theorem LineW.below {w w' : World} {na : Option Addr} {nn nc : Nat} {va : Option Addr} {vn vc : Nat} {names : List Bs} {vers : List To} (h : LineW w na nn nc va vn vc names vers) (hb : Below w.heap.size w w') : LineW w' na nn nc va vn vc names vers :=
 ⟨h.rn.below hb rfl, h.rv.below hb rfl, h.wn, h.wv, h.g.below hb, Utf8Tabs_below h.T hb⟩
theorem call_c1 : ∀ args w, (callFunc 50 args).run Tryz.prog w = .ok (.enter 50 args) w := enters_of Tryz.func50 (by kernel_rfl) rfl
theorem call_c2 : ∀ args w, (callFunc 53 args).run Tryz.prog w = .ok (.enter 53 args) w := enters_of Tryz.func53 (by kernel_rfl) rfl
theorem LineW.names {w : World} {na : Option Addr} {nn nc : Nat} {va : Option Addr} {vn vc : Nat} {names : List Bs} {vers : List To} (h : LineW w na nn nc va vn vc names vers) :
   Calls Tryz.prog 52 #[.slice na nn nc, .func (.func 53) #[] #[]] w (Ret (.bool false) w) := by
 have := contStr na nn nc 53 #[] names (fun s => !wordB ⟨s.toArray⟩) w h.rn call_c2 (fun x _ W hb => by simpa using check2_any x W (Utf8Tabs_below h.T hb))
 rwa [List.any_eq_false.2 (fun s hs => by simp [h.wn s hs])] at this
theorem LineW.vers {w : World} {na : Option Addr} {nn nc : Nat} {va : Option Addr} {vn vc : Nat} {names : List Bs} {vers : List To} (h : LineW w na nn nc va vn vc names vers) :
   Calls Tryz.prog 49 #[.slice va vn vc, .func (.func 50) #[] #[]] w (Ret (.bool false) w) := by
 have := contTo va vn vc 50 #[] vers (fun _ => false) w h.rv call_c1 (fun x hx W hb => by simpa using check1_ok x W (Utf8Tabs_below h.T hb) (h.wv x hx))
 rwa [List.any_eq_false.2 (fun s hs => by simp)] at this
theorem most_any (r : Int) (w : World) : Calls Tryz.prog 48 #[.int .i32 r] w (Ret (.int .i64 (mostR r)) w) := by
 by_cases h1 : r = 115
 · subst h1
   go_enter Tryz.func48, Tryz.ntmps48
   go_wp2_with fail
   go_ret
   exact ⟨rfl, Below.refl _ _⟩
 · have e1 : (r == 115) = false := beq_eq_false_iff_ne.2 h1
   by_cases h2 : r = 116
   · subst h2
     go_enter Tryz.func48, Tryz.ntmps48
     go_wp2_with fail
     go_ret
     exact ⟨rfl, Below.refl _ _⟩
   · have e2 : (r == 116) = false := beq_eq_false_iff_ne.2 h2
     by_cases h3 : r = 109
     · subst h3
       go_enter Tryz.func48, Tryz.ntmps48
       go_wp2_with fail
       go_ret
       exact ⟨rfl, Below.refl _ _⟩
     · have e3 : (r == 109) = false := beq_eq_false_iff_ne.2 h3
       have hm : mostR r = 0 := by unfold mostR; rw [if_neg h1, if_neg (by omega)]
       rw [hm]
       go_enter Tryz.func48, Tryz.ntmps48
       go_wp2_with fail
       go_ret
       exact ⟨rfl, Below.refl _ _⟩
end Yd


namespace Yd
open Go Go.RowKit Go.Proofs

def encU8 (b : UInt8) : List Value := [.int .u8 (b.toNat : Int)]
instance cInsU8 : Cells encU8 1 := ⟨fun _ => rfl, by decide, fun x u h => by simp [encU8] at h; subst h; rfl⟩
theorem infoU8 : (Tryz.prog.info? 5).map (fun i => (i.zero.map (·.cells.size), i.size, i.bytes)) = some (some 1, 1, 1) := by kernel_rfl
theorem partsU8 : ∃ i z, Tryz.prog.info? 5 = some i ∧ i.zero = some z ∧ i.size = 1 ∧ i.bytes = 1 ∧ z.cells.size = 1 := parts_of infoU8

def digF : Nat → Nat → Bs
 | 0, _ => []
 | f + 1, n => if n = 0 then [] else digF f (n / 10) ++ [UInt8.ofNat (48 + n % 10)]
theorem digF_enough : ∀ (f g n : Nat), n ≤ f → n ≤ g → digF f n = digF g n
 | 0, 0, _, _, _ => rfl
 | 0, g + 1, n, hf, _ => by obtain rfl : n = 0 := by omega
                            simp [digF]
 | f + 1, 0, n, _, hg => by obtain rfl : n = 0 := by omega
                            simp [digF]
 | f + 1, g + 1, n, hf, hg => by
   simp only [digF]
   split
   · rfl
   · rw [digF_enough f g (n / 10) (by omega) (by omega)]
def digs (n : Nat) : Bs := digF n n
theorem digs_step {n : Nat} (h : 0 < n) : digs n = digs (n / 10) ++ [UInt8.ofNat (48 + n % 10)] := by
 obtain ⟨m, rfl⟩ : ∃ m, n = m + 1 := ⟨n - 1, by omega⟩
 show digF (m + 1) (m + 1) = _
 simp only [digF]
 rw [if_neg (by omega), digF_enough m ((m + 1) / 10) _ (by omega) (Nat.le_refl _)]
 rfl
theorem digs_len : ∀ (d n : Nat), n < 10 ^ d → (digs n).length ≤ d
 | d, 0, _ => by simp [digs, digF]
 | 0, n + 1, h => by simp at h
 | d + 1, n + 1, h => by
   rw [digs_step (by omega), List.length_append, List.length_singleton]
   have := digs_len d ((n + 1) / 10) (by rw [Nat.pow_succ] at h; omega)
   omega

theorem Own.newU8 (X : World) (B m : Nat) (hB : B ≤ X.heap.size) : Own (X.alloc (.cells #[.int .u8 (48 + (m : Int) % 10)] 5)) B 5 1 encU8 (.slice (some ⟨X.heap.size, 0, none⟩) 1 1) [UInt8.ofNat (48 + m % 10)] :=
 Own.new (hc := cInsU8) X B 5 #[.int .u8 (48 + (m : Int) % 10)] [UInt8.ofNat (48 + m % 10)] hB (by
   simp [encU8]; omega) (by simp [maxLen])

theorem digit_Text (n : Nat) (h1 : 1 ≤ n) (hn : n ≤ 100000) (w : World) : Calls Tryz.prog 102 #[.int .i64 n] w (Ret (.string ⟨(digs n).toArray⟩) w) := by
 obtain ⟨i, z, hi, hz, hsize, hby', hzs⟩ := partsU8
 have HI := hid (⟨hi, hz, hsize, hby', hzs⟩ : _ ∧ _ ∧ _ ∧ _ ∧ _)
 clear hi hz hsize hby' hzs
 go_enter Tryz.func102, Tryz.ntmps102
 go_wp2_with fail
 go_loopw [3, 4, 5] (fun v o b wr => ∃ (m : Nat) (a0 : Option Addr) (c0 : Nat) (ds : Bs) (f : Bool), v = .int .u64 m ∧ o = .slice a0 ds.length c0 ∧ b = .bool f ∧ digs n = digs m ++ ds ∧ (f = true → 0 < m) ∧ m ≤ n ∧ ds.length ≤ n ∧ ds.length + m ≤ n ∧
     Own wr w.heap.size 5 1 encU8 (.slice a0 ds.length c0) ds ∧ Below w.heap.size w wr) (fun v _ _ _ => (RowKit.intOf v).toNat)
 case atStart => exact ⟨n, none, 0, [], true, rfl, rfl, rfl, by simp, fun _ => by omega, Nat.le_refl _, Nat.zero_le _, by simp, Own.nil_ _ _ _ _ _, Below.refl _ _⟩
 case round =>
   obtain ⟨m, a0, c0, ds, f, rfl, rfl, rfl, hd, hf, hm, hl, hlm, how, hbw⟩ := hrel
   by_cases h0 : 0 < m
   · have HOW := hid how; have HBW := hid hbw; have HD := hid hd
     have HGT : ((10 : Int) > 0) := by decide
     clear how hbw hd
     have hm0 : ((m : Int) > 0) := by omega
     have HNW := hid (Own.newU8 wr w.heap.size m HBW.out.size)
     have HROW := hid ((HOW.out.below (belowA (Below.refl _ _) (.cells #[.int .u8 (48 + (m : Int) % 10)] 5)) rfl).row (by omega))
     have HN1 : Hid ([UInt8.ofNat (48 + m % 10)].length + ds.length = 1 + ds.length) := hid rfl
     have HN2 : Hid ((1 + ds.length) * 1 ≤ 140737488355328) := hid (by omega)
     have HN3 : Hid (1 + ds.length ≤ maxLen) := hid (by unfold maxLen; omega)
     have HN4 : Hid (w.heap.size ≤ (wr.alloc (.cells #[.int .u8 (48 + (m : Int) % 10)] 5)).heap.size) := hid (by have := HBW.out.size; simp; omega)
     have HB2 := hid ((HBW.out).alloc HBW.out.size (.cells #[.int .u8 (48 + (m : Int) % 10)] 5))
     have HD2 : Hid (digs n = digs (m / 10) ++ (UInt8.ofNat (48 + m % 10) :: ds)) := hid (by rw [HD.out, digs_step h0, List.append_assoc]; rfl)
     clear hf
     cases f
     · go_wp2_with (at_builtin; refine wpList_app rfl _ _ 99 rfl i z 1 Tryz.underlying99 HI.out.1 HI.out.2.1 HI.out.2.2.1 HI.out.2.2.2.1 HI.out.2.2.2.2 rfl HNW.out a0 ds.length c0 (1 + ds.length) ds rfl HROW.out HN1.out HN2.out HN3.out HN4.out ?_; intro a' c' w1 hown1 hg1 hat1)
       have HR1 := hid (⟨hown1, below_app HB2.out HNW.out (Nat.le_refl _) HN4.out hg1⟩ : _ ∧ _)
       clear hown1 hg1 hat1
       go_roundw
       case rel => exact ⟨m / 10, a', c', UInt8.ofNat (48 + m % 10) :: ds, false, by go_num, by rw [List.length_cons, Nat.add_comm], rfl, HD2.out, fun h => (by cases h), by omega, by rw [List.length_cons]; omega, by rw [List.length_cons]; omega, by rw [List.length_cons, Nat.add_comm]; exact HR1.out.1, HR1.out.2⟩
       case measure => simp [RowKit.intOf]; omega
     · go_wp2_with (at_builtin; refine wpList_app rfl _ _ 99 rfl i z 1 Tryz.underlying99 HI.out.1 HI.out.2.1 HI.out.2.2.1 HI.out.2.2.2.1 HI.out.2.2.2.2 rfl HNW.out a0 ds.length c0 (1 + ds.length) ds rfl HROW.out HN1.out HN2.out HN3.out HN4.out ?_; intro a' c' w1 hown1 hg1 hat1)
       have HR1 := hid (⟨hown1, below_app HB2.out HNW.out (Nat.le_refl _) HN4.out hg1⟩ : _ ∧ _)
       clear hown1 hg1 hat1
       go_roundw
       case rel => exact ⟨m / 10, a', c', UInt8.ofNat (48 + m % 10) :: ds, false, by go_num, by rw [List.length_cons, Nat.add_comm], rfl, HD2.out, fun h => (by cases h), by omega, by rw [List.length_cons]; omega, by rw [List.length_cons]; omega, by rw [List.length_cons, Nat.add_comm]; exact HR1.out.1, HR1.out.2⟩
       case measure => simp [RowKit.intOf]; omega
   · obtain rfl : m = 0 := by omega
     obtain rfl : f = false := by cases f; rfl; exact absurd (hf rfl) (by omega)
     obtain rfl : ds = digs n := by simpa [digs, digF] using hd.symm
     have hpos : 0 < (digs n).length := by rw [digs_step (by omega)]; simp
     have hrow := how.row (by omega)
     obtain ⟨_, bb, oo, _, rfl, _⟩ := hrow.at_ hpos
     have hcv : (convert 99 9 (.slice (some ⟨bb, oo, none⟩) (digs n).length c0)).run Tryz.prog wr = .ok (.string (strOfNums ((digs n).map (fun u => (u.toNat : Int))))) wr :=
       run_convert_bytes_arg wr 99 5 Tryz.underlying99 Tryz.underlying5 bb oo _ c0 ((digs n).map (fun u => (u.toNat : Int))) (by simp) (fun i hi => by
         obtain ⟨x, b', o', hx, hab, hc⟩ := hrow.at_ hi
         cases hab
         have := hc 0 _ rfl
         rw [Nat.mul_one, Nat.add_zero] at this
         rw [this, List.getD_eq_getElem?_getD, List.getElem?_map, hx]; rfl) 9 Tryz.underlying9
     have hst : strOfNums ((digs n).map (fun u => (u.toNat : Int))) = ⟨(digs n).toArray⟩ := by
       unfold strOfNums
       rw [List.map_map]
       congr 2
       conv => rhs; rw [← List.map_id (digs n)]
       apply List.map_congr_left
       intro u _
       simp
     rw [hst] at hcv
     have HBW := hid hbw
     clear how hbw hd hrow hst hpos
     go_wp2_with fail
     go_ret
     exact ⟨rfl, HBW.out⟩
end Yd


namespace Yd
open Go Go.RowKit Go.Proofs

theorem cat2 (a b : Bs) : (⟨a.toArray⟩ ++ ⟨b.toArray⟩ : ByteArray) = ⟨(a ++ b).toArray⟩ := by
 apply ByteArray.ext; simp
theorem cat3 (a b c : Bs) : (⟨a.toArray⟩ ++ ⟨b.toArray⟩ ++ ⟨c.toArray⟩ : ByteArray) = ⟨(a ++ (b ++ c)).toArray⟩ := by
 rw [cat2, cat2, List.append_assoc]
def toldT (t : To) : Bs := if t.k = 0 then [45] else t.name ++ 46 :: digs t.k.toNat

theorem line_told (t : To) (h0 : 0 ≤ t.k) (h9 : t.k ≤ 999) (hn : t.name.length ≤ 100000) (w : World) : Calls Tryz.prog 45 #[valTo t] w (Ret (.string ⟨(toldT t).toArray⟩) w) := by
 obtain ⟨n, k⟩ := t
 simp only at h0 h9 hn
 obtain ⟨m, rfl⟩ : ∃ m : Nat, k = m := ⟨k.toNat, by omega⟩
 by_cases hm : m = 0
 · subst hm
   go_enter Tryz.func45, Tryz.ntmps45
   go_wp2_with fail
   go_ret
   exact ⟨rfl, belowA (Below.refl _ _) _⟩
 · have hk : ((m : Int) == 0) = false := beq_eq_false_iff_ne.2 (by omega)
   have hq : toldT ⟨n, m⟩ = n ++ 46 :: digs m := by
     unfold toldT
     rw [if_neg (by simpa using hm), Int.toNat_natCast]
   rw [hq]
   have HD := fun W => hid (digit_Text m (by omega) (by omega) W)
   have HB := hid (belowA (Below.refl w.heap.size w) (.cells #[.string ⟨n.toArray⟩, .int .i64 m] 67))
   have HX := hid (Bx.new w #[.string ⟨n.toArray⟩, .int .i64 m] 67)
   have hd3 : (digs m).length ≤ 3 := digs_len 3 m (by omega)
   have hN1 : ¬ (9223372036854775807 < n.length + 1) := by omega
   have hN2 : ¬ (9223372036854775807 < n.length + 1 + (digs m).length) := by omega
   clear hq h0 h9
   go_enter Tryz.func45, Tryz.ntmps45
   go_wp2_with fail
   refine wp_region_ordC 8 [(0, 0), (1, 0), (2, 0), (3, 0), (4, 0), (5, 2), (6, 0), (7, 0)] (fun _ => True) (fun W' => W'.cell? ⟨w.heap.size, 0, none⟩ = some (.string ⟨n.toArray⟩) ∧ W'.cell? ⟨w.heap.size, 1, none⟩ = some (.int .i64 m)) (by kernel_rfl) (by kernel_rfl) (trivial) (⟨HX.out.1 0, HX.out.1 1⟩) ?_
   repeat ((first | refine ordC_skip rfl rfl ?_ | refine ordC_skip1 rfl rfl ?_ | ((first | refine ordC_q rfl rfl ?_ | refine ordC_p rfl rfl ?_); apply Exists.intro; refine ⟨fun wS hS => ?_, ?_⟩; (go_simp; try with_reducible rfl))); simp only [Act.put, List.setIfInBounds_toArray, List.set_cons_zero, List.set_cons_succ])
   refine ordC_l rfl rfl (fun K hK => ?_)
   go_simp
   refine (HD _).out.mono ?_
   rintro en w2 ⟨rfl, hb2⟩
   have HB2 := hid (HB.out.drew.trans (hb2.mono HB.out.drew.size))
   refine hK _ _ ⟨trivial, (HX.out.drew.keep hb2).1 0, (HX.out.drew.keep hb2).1 1⟩ ?_
   clear hK K hb2
   repeat ((first | refine ordC_skip rfl rfl ?_ | refine ordC_skip1 rfl rfl ?_ | ((first | refine ordC_q rfl rfl ?_ | refine ordC_p rfl rfl ?_); apply Exists.intro; refine ⟨fun wS hS => ?_, ?_⟩; (go_simp; try with_reducible rfl))); simp only [Act.put, List.setIfInBounds_toArray, List.set_cons_zero, List.set_cons_succ])
   refine ordC_nil ?_
   go_wp2_with fail
   go_ret
   exact ⟨congrArg (fun s => Ending.returned (.string s)) (cat3 n [46] (digs m)), HB2.out⟩
end Yd


namespace Yd
open Go Go.RowKit Go.Proofs

structure ScanAt (h : HC) (l : LnC) (w0 w : World) (Lk : LnC) (ns : List Bs) (vs : List To) (X : World) : Prop where
 b0 : Bx X w.heap.size (cellsH h)
 b1 : Bx X (w.heap.size + 1) (cellsLn Lk)
 b3 : Bx X (w.heap.size + 3) #[.int .i64 0, .slice none 0 0, .int .i64 0, .slice none 0 0, .bool false, .int .i64 0]
 on : Own X w0.heap.size 9 1 encStr (.slice Lk.na Lk.nn Lk.nc) ns
 ov : Own X w0.heap.size 67 2 encTo (.slice Lk.va Lk.vn Lk.vc) vs
 fn : ∀ g, (Value.slice Lk.na Lk.nn Lk.nc).ownBlock = some g → g < w.heap.size ∨ w.heap.size + 4 ≤ g
 fv : ∀ g, (Value.slice Lk.va Lk.vn Lk.vc).ownBlock = some g → g < w.heap.size ∨ w.heap.size + 4 ≤ g
 be : Below w0.heap.size w0 X
 kw : Kept w l X
 gr : Grew w l Lk
 sz : w.heap.size + 4 ≤ X.heap.size
theorem ScanAt.pn {h : HC} {l : LnC} {w0 w : World} {Lk : LnC} {ns : List Bs} {vs : List To} {X : World} (s : ScanAt h l w0 w Lk ns vs X) (j : Nat) (hj : j < 4) : (Value.slice Lk.na Lk.nn Lk.nc).ownBlock ≠ some (w.heap.size + j) := fun e => by have := s.fn _ e; omega
end Yd


namespace Yd
open Go Go.RowKit Go.Proofs

theorem Own.strs {X : World} {g : Nat} (h : X.heap.size = g) (l : List Bs) (hl : l.length ≤ maxLen) : Own (X.alloc (.cells (l.map (fun s => Value.string ⟨s.toArray⟩)).toArray 9)) g 9 1 encStr (.slice (some ⟨g, 0, none⟩) l.length l.length) l := by
 subst h
 exact Own.new (hc := cInsStr) X X.heap.size 9 _ l (Nat.le_refl _) (by
   show l.map (fun s => Value.string ⟨s.toArray⟩) = l.flatMap encStr
   induction l with
   | nil => rfl
   | cons a l ih => rw [List.map_cons, List.flatMap_cons, ih (by simp at hl; omega)]; rfl) hl

end Yd


namespace Yd
open Go Go.RowKit Go.Proofs

def guardsN (b : Int) : Nat → List Bs
 | 0 => []
 | j + 1 => guardsN b j ++ if b / 2 ^ j % 2 = 1 then [guardT j] else []
def guardsW (b : Int) : List Bs := guardsN b 4
theorem guardsN_len (b : Int) : ∀ j, (guardsN b j).length ≤ j
 | 0 => Nat.le_refl _
 | j + 1 => by
   have := guardsN_len b j
   simp only [guardsN, List.length_append]
   split <;> simp <;> omega
theorem guardsN_mem {b : Int} {x : Bs} : ∀ {j : Nat}, x ∈ guardsN b j → ∃ i, x = guardT i
 | 0, h => by simp [guardsN] at h
 | j + 1, h => by
   simp only [guardsN, List.mem_append] at h
   rcases h with h | h
   · exact guardsN_mem h
   · split at h
     · exact ⟨j, by simpa using h⟩
     · cases h
def wordsS (s : LnS) : List Bs :=
 let k := s.kind.toNat
 let fn := (formN k).toNat
 let r := formR k
 formV k :: s.names.take fn ++
   ((if r = 108 then [levelT s.lvl.toNat] else if r = 118 then s.vers.take 1 |>.map toldT else if r = 103 then guardsW s.bits else if r = 109 ∧ s.first = true then [[45]] else []) ++
    if r = 115 then (s.names.drop fn).zip s.vers |>.flatMap (fun p => [p.1, toldT p.2]) else s.names.drop fn)
def textS (s : LnS) : Bs := Lib.join (wordsS s) [32] ++ [10]
theorem Row.takeN {α : Type} {enc : α → List Value} {w : World} {k : Nat} {b o n c : Nat} {xs : List α} (h : Row w k enc (some ⟨b, o, none⟩) n c xs) {m c' : Nat} (hm : m ≤ n) (hc : m ≤ c') : Row w k enc (some ⟨b, o, none⟩) m c' (xs.take m) := by
 refine ⟨by rw [List.length_take, h.len]; omega, hc, Nat.le_trans hm h.le, fun h => (by cases h), fun i x hx => ?_⟩
 rw [List.getElem?_take] at hx
 split at hx
 · exact h.2.2.2.2 i x hx
 · cases hx
theorem Own.len {α : Type} {enc : α → List Value} {w : World} {B k n c : Nat} {E : TypeId} {a : Option Addr} {xs : List α} (h : Own w B E k enc (.slice a n c) xs) : n = xs.length := by
 obtain ⟨a', c', e, _⟩ := h.shape
 injection e
structure TextAt (w w1 : World) (c0 c1 : Array Value) (X : World) (a : Option Addr) (n c : Nat) (ws : List Bs) : Prop where
 x : Bx X w.heap.size c0
 y : Bx X w1.heap.size c1
 o : Own X (w1.heap.size + 1) 9 1 encStr (.slice a n c) ws
 b : Below w.heap.size w X
 s : w1.heap.size + 1 ≤ X.heap.size
theorem TextAt.snoc {w w1 X X' : World} {c0 c1 : Array Value} {a a' : Option Addr} {n c c' : Nat} {ws : List Bs} {s : Bs} (h : TextAt w w1 c0 c1 X a n c ws) (hlt : w.heap.size < w1.heap.size)
   (hown : Own X' (w1.heap.size + 1) 9 1 encStr (.slice a' (n + 1) c') (ws ++ [s])) (hg : (X.alloc (.cells #[.string ⟨s.toArray⟩] 9)).grownBy X' (Value.slice a n c).ownBlock) : TextAt w w1 c0 c1 X' a' (n + 1) c' (ws ++ [s]) :=
 ⟨(h.x.alloc _).grown hg (fun e => by have := (h.o.lt _ e).1; omega), (h.y.alloc _).grown hg (fun e => by have := (h.o.lt _ e).1; omega), hown,
   below_app (h.b.alloc h.b.size _) (h.o.alloc _) (by omega) (by have := h.s; simp; omega) hg, by have := hg.size; have := h.s; simp at *; omega⟩
theorem TextAt.call {w w1 X X' : World} {c0 c1 : Array Value} {a : Option Addr} {n c : Nat} {ws : List Bs} (h : TextAt w w1 c0 c1 X a n c ws) (hb : Below X.heap.size X X') : TextAt w w1 c0 c1 X' a n c ws :=
 ⟨h.x.keep hb, h.y.keep hb, h.o.below hb rfl, h.b.trans (hb.mono h.b.size), Nat.le_trans h.s hb.size⟩
theorem join_len (ws : List Bs) (h : ∀ x ∈ ws, x.length ≤ 40) : (Lib.join ws [32]).length ≤ 41 * ws.length := by
 show ([32].intercalate ws : Bs).length ≤ _
 induction ws with
 | nil => simp
 | cons a l ih =>
   have h1 := h a List.mem_cons_self
   have h2 := ih (fun x hx => h x (List.mem_cons_of_mem _ hx))
   cases l with
   | nil => simp; omega
   | cons b r =>
     rw [List.intercalate_cons_cons]
     simp only [List.length_append, List.length_cons, List.length_nil] at *
     omega
theorem join_any (a : Option Addr) (n c : Nat) (ws : List Bs) (w : World) (hr : Row w 1 encStr a n c ws) (hn : 0 < n) (hw : ∀ x ∈ ws, x.length ≤ 40) (hl : n ≤ 100000) :
   Calls Tryz.prog 46 #[.slice a n c, .string ⟨#[32]⟩] w (Ret (.string ⟨(Lib.join ws [32]).toArray⟩) w) := by
 obtain ⟨_, b, o, _, rfl, hc⟩ := hr.at_ hn
 have hlen := hr.len
 subst hlen
 have hm : (ws.map (fun s => (⟨s.toArray⟩ : ByteArray))).map (·.data.toList) = ws := by
   rw [List.map_map]
   conv => rhs; rw [← List.map_id ws]
   exact List.map_congr_left (fun x _ => rfl)
 have hj := join_len ws hw
 have hbk : b < w.heap.size := by
   have := hc 0 _ rfl
   exact cell_lt this
 have := Tryz.strings_Join b o c (ws.map (fun s => (⟨s.toArray⟩ : ByteArray))) ⟨#[32]⟩ w (fun j x hx => by
   rw [List.getElem?_map] at hx
   cases hy : ws[j]? with
   | none => rw [hy] at hx; cases hx
   | some y =>
     rw [hy] at hx
     simp only [Option.map_some, Option.some.injEq] at hx
     subst hx
     obtain ⟨_, b', o', hx', hab, hc'⟩ := hr.at_ (i := j) (List.getElem?_eq_some_iff.1 hy).1
     cases hab
     rw [hy] at hx'; cases hx'
     have := hc' 0 _ rfl
     rwa [Nat.mul_one, Nat.add_zero] at this) hbk (by rw [List.length_map]; omega) (by rw [List.length_map]; exact hr.cap) (by rw [hm]; show (Lib.join ws [32]).length ≤ _; omega)
 rw [hm, List.length_map] at this
 exact this
theorem word_len {s : Bs} (h : wordB ⟨s.toArray⟩ = true) : s.length ≤ 24 := by
 simp only [wordB, Bool.and_eq_true, decide_eq_true_eq] at h
 have := h.1.1.2
 simp only [ByteArray.size, List.size_toArray] at this
 omega
theorem told_len {t : To} (h : toOk t) : (toldT t).length ≤ 40 := by
 unfold toldT
 rcases h with rfl | ⟨h1, h2, h3⟩
 · decide
 · rw [if_neg (by omega)]
   have := word_len h1
   have := digs_len 3 t.k.toNat (by omega)
   simp; omega
theorem toOk_b {t : To} (h : toOk t) : 0 ≤ t.k ∧ t.k ≤ 999 ∧ t.name.length ≤ 100000 := by
 rcases h with rfl | ⟨h1, h2, h3⟩
 · decide
 · have := word_len h1
   exact ⟨by omega, h3, by omega⟩
theorem level_len (i : Nat) : (levelT i).length ≤ 40 := by unfold levelT; split <;> decide
theorem form_len (i : Nat) : (formV i).length ≤ 40 := by unfold formV; split <;> decide
theorem guard_len (i : Nat) : (guardT i).length ≤ 40 := by unfold guardT; split <;> decide
theorem words_len (s : LnS) (hn : ∀ x ∈ s.names, wordB ⟨x.toArray⟩ = true) (hv : ∀ t ∈ s.vers, toOk t) : ∀ x ∈ wordsS s, x.length ≤ 40 := by
 have hn' : ∀ x ∈ s.names, x.length ≤ 40 := fun x hx => by have := word_len (hn x hx); omega
 intro x hx
 simp only [wordsS, List.cons_append, List.mem_cons, List.mem_append] at hx
 rcases hx with rfl | hx | hx | hx
 · exact form_len _
 · exact hn' x (List.mem_of_mem_take hx)
 · split at hx
   · simp only [List.mem_singleton] at hx; subst hx; exact level_len _
   · split at hx
     · obtain ⟨t, ht, rfl⟩ := List.mem_map.1 hx
       exact told_len (hv t (List.mem_of_mem_take ht))
     · split at hx
       · obtain ⟨i, rfl⟩ := guardsN_mem hx
         exact guard_len _
       · split at hx
         · simp only [List.mem_singleton] at hx; subst hx; decide
         · cases hx
 · split at hx
   · obtain ⟨p, hp, hx⟩ := List.mem_flatMap.1 hx
     obtain ⟨h1, h2⟩ := List.of_mem_zip hp
     simp only [List.mem_cons, List.not_mem_nil, or_false] at hx
     rcases hx with rfl | rfl
     · exact hn' _ (List.mem_of_mem_drop h1)
     · exact told_len (hv _ h2)
   · exact hn' x (List.mem_of_mem_drop hx)
theorem index_g0 (W : World) : (Instr.index 80 (.agg #[.string ⟨#[114, 121, 119]⟩, .string ⟨#[109, 114]⟩, .string ⟨#[109, 119]⟩, .string ⟨#[119, 102, 114]⟩]) (.int .i64 0)).run Tryz.prog W = .ok (.string ⟨#[114, 121, 119]⟩) W := by kernel_rfl
theorem index_g1 (W : World) : (Instr.index 80 (.agg #[.string ⟨#[114, 121, 119]⟩, .string ⟨#[109, 114]⟩, .string ⟨#[109, 119]⟩, .string ⟨#[119, 102, 114]⟩]) (.int .i64 1)).run Tryz.prog W = .ok (.string ⟨#[109, 114]⟩) W := by kernel_rfl
theorem index_g2 (W : World) : (Instr.index 80 (.agg #[.string ⟨#[114, 121, 119]⟩, .string ⟨#[109, 114]⟩, .string ⟨#[109, 119]⟩, .string ⟨#[119, 102, 114]⟩]) (.int .i64 2)).run Tryz.prog W = .ok (.string ⟨#[109, 119]⟩) W := by kernel_rfl
theorem index_g3 (W : World) : (Instr.index 80 (.agg #[.string ⟨#[114, 121, 119]⟩, .string ⟨#[109, 114]⟩, .string ⟨#[109, 119]⟩, .string ⟨#[119, 102, 114]⟩]) (.int .i64 3)).run Tryz.prog W = .ok (.string ⟨#[119, 102, 114]⟩) W := by kernel_rfl
theorem bits_tab : ∀ b : Fin 16, ∀ j : Fin 4, (Go.bits .and .i64 ((b.val : Int) / 2 ^ j.val) 1 == 1) = decide ((b.val : Int) / 2 ^ j.val % 2 = 1) := by decide
theorem bits_one (b j : Nat) (hb : b ≤ 15) (hj : j < 4) : (Go.bits .and .i64 ((b : Int) / 2 ^ j) 1 == 1) = decide ((b : Int) / 2 ^ j % 2 = 1) := bits_tab ⟨b, by omega⟩ ⟨j, hj⟩
end Yd
