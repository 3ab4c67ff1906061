import Derived.Test.YthdpangjphphjaaGreatDoorOwnPut
import Derived.Test.YthdpangjphphjaaGreatDoorSpoken3
import Derived.Test.YthdpangjphphjaaGreatDoorProg
import Derived.Test.YthdpangjphphjaaGreatDoorRows
import Derived.ProofKit
import Derived.OpenShut
import Derived.Deep.Slices
import Derived.Test.YthdpangjphphjaaGreatDoorRf
import Derived.BigQuiet
import Derived.Laws.BytesArg
set_option maxRecDepth 200000
set_option maxHeartbeats 8000000
namespace Yd
open Go Go.RowKit Go.Proofs

def Lst {β : Type} (w X : World) (T : TypeId) (k : Nat) (enc : β → List Value) (s : Sl) (L : List β) : Prop :=
 L.length ≤ 2000000 ∧ (Row w k enc s.a s.n s.c L ∨ Own X w.heap.size T k enc s.v L)
section
variable {β : Type} {w X Y : World} {T : TypeId} {k : Nat} {enc : β → List Value} {s : Sl} {L : List β}
theorem Lst.same (h : Lst w X T k enc s L) {g : Nat} {cs : Array Value} {T' : TypeId} {fz : Nat × Nat} (hg : X.heap[g]? = some (.cells cs T' fz)) (hT : T ≠ T') (hs : Same (fun i => i ≠ g) X Y) : Lst w Y T k enc s L := by
 obtain ⟨hL, h | h⟩ := h
 · exact ⟨hL, .inl h⟩
 · refine ⟨hL, .inr (h.same hs (fun i hi e => ?_))⟩
   subst e
   obtain ⟨cs', fz', e'⟩ := h.tag hi
   rw [hg] at e'
   cases e'
   exact hT rfl
theorem Lst.below (h : Lst w X T k enc s L) (hb : Below X.heap.size X Y) : Lst w Y T k enc s L := by
 obtain ⟨hL, h | h⟩ := h
 · exact ⟨hL, .inl h⟩
 · exact ⟨hL, .inr (h.below hb rfl)⟩
theorem Lst.row [hc : Cells enc k] (h : Lst w X T k enc s L) (hb : Below w.heap.size w X) : Row X k enc s.a s.n s.c L := by
 obtain ⟨hL, h | h⟩ := h
 · exact h.below hb rfl
 · obtain ⟨a, c, e, _, _⟩ := h.shape
   obtain ⟨sa, sn, sc⟩ := s
   injection e with e1 e2 e3
   subst e1 e2 e3
   exact h.row (by omega)
theorem Lst.own (h : Own X w.heap.size T k enc s.v L) (hL : L.length ≤ 2000000) : Lst w X T k enc s L := ⟨hL, .inr h⟩
end
def Sls {α β : Type} (w X : World) (T : TypeId) (k : Nat) (enc : β → List Value) (sl : α → Sl) (xs : List α) (Ls : List (List β)) : Prop :=
 xs.length = Ls.length ∧ ∀ (i : Nat) (x : α) (L : List β), xs[i]? = some x → Ls[i]? = some L → Lst w X T k enc (sl x) L
section
variable {α β : Type} {w X Y : World} {T : TypeId} {k : Nat} {enc : β → List Value} {sl : α → Sl} {xs : List α} {Ls : List (List β)}
theorem Sls.same (h : Sls w X T k enc sl xs Ls) {g : Nat} {cs : Array Value} {T' : TypeId} {fz : Nat × Nat} (hg : X.heap[g]? = some (.cells cs T' fz)) (hT : T ≠ T') (hs : Same (fun i => i ≠ g) X Y) : Sls w Y T k enc sl xs Ls :=
 ⟨h.1, fun i x L h1 h2 => (h.2 i x L h1 h2).same hg hT hs⟩
theorem Sls.below (h : Sls w X T k enc sl xs Ls) (hb : Below X.heap.size X Y) : Sls w Y T k enc sl xs Ls := ⟨h.1, fun i x L h1 h2 => (h.2 i x L h1 h2).below hb⟩
theorem Sls.set (h : Sls w X T k enc sl xs Ls) {i : Nat} {y : α} {L : List β} (hL : Ls[i]? = some L) (hy : Lst w X T k enc (sl y) L) : Sls w X T k enc sl (xs.set i y) Ls := by
 refine ⟨by rw [List.length_set]; exact h.1, fun j x L' h1 h2 => ?_⟩
 rw [List.getElem?_set] at h1
 split at h1
 · rename_i e
   subst e
   split at h1
   · injection h1 with h1
     subst h1
     rw [hL] at h2
     injection h2 with h2
     subst h2
     exact hy
   · cases h1
 · exact h.2 j x L' h1 h2
end
@[reducible] def EvC.sl (x : EvC) : Sl := ⟨x.sa, x.sn, x.sc⟩
@[reducible] def OrC.sl (x : OrC) : Sl := ⟨x.sa, x.sn, x.sc⟩
@[reducible] def MaC.sl (x : MaC) : Sl := ⟨x.sa, x.sn, x.sc⟩
@[reducible] def EvC.wi (x : EvC) (s : Sl) : EvC := { x with sa := s.a, sn := s.n, sc := s.c }
@[reducible] def OrC.wi (x : OrC) (s : Sl) : OrC := { x with sa := s.a, sn := s.n, sc := s.c }
@[reducible] def MaC.wi (x : MaC) (s : Sl) : MaC := { x with sa := s.a, sn := s.n, sc := s.c }
def EvC.base (x : EvC) : EvC := x.wi ⟨none, 0, 0⟩
def OrC.base (x : OrC) : OrC := x.wi ⟨none, 0, 0⟩
def MaC.base (x : MaC) : MaC := x.wi ⟨none, 0, 0⟩
structure Cont where
 nl : Nat → List Bs
 E : List EvC
 SE : List (List Sn)
 D : List OrC
 SD : List (List Int)
 M : List MaC
 SM : List (List Int)
 Q : List Wa
section
variable {w X Y : World} {h : HC} {es : List EvC} {ds : List OrC} {ms : List MaC} {c : Cont}
end
section
variable {w X Y : World} {h : HC} {es : List EvC} {ds : List OrC} {ms : List MaC} {c : Cont}
end
end Yd


namespace Yd
open Go Go.RowKit Go.Proofs Go.ChangeShapes Go.WideShapes Go.ChangeAt
open Go.Proofs.YthdpangjphphjaaGreatDoor.Rows (uptoBulk uptoBulkAll)

section
variable {H : Type} {enc : TypeId × Value → H} {w : World} {base : Nat} {spare : Nat → Bool} {held : Bool}
theorem pick_list {α : Type} {p : Nat → α → Prop} : ∀ (m : Nat), (∀ i, i < m → ∃ x, p i x) → ∃ xs : List α, xs.length = m ∧ ∀ i x, xs[i]? = some x → p i x
 | 0, _ => ⟨[], rfl, fun i x h => by simp at h⟩
 | m + 1, h => by
   obtain ⟨xs, hl, hx⟩ := pick_list m (fun i hi => h i (by omega))
   obtain ⟨x, hp⟩ := h m (by omega)
   refine ⟨xs ++ [x], by simp [hl], fun i y hy => ?_⟩
   rcases Nat.lt_or_ge i m with hi | hi
   · rw [List.getElem?_append_left (by omega)] at hy
     exact hx i y hy
   · rw [List.getElem?_append_right (by omega), hl] at hy
     have : i = m := by
       rcases Nat.lt_or_ge (i - m) 1 with h1 | h1
       · omega
       · rw [List.getElem?_eq_none (by simpa using h1)] at hy; cases hy
     subst this
     simp at hy
     subst hy
     exact hp
variable {N : Nat}
theorem c_int : Tryz.prog.cellsOf 3 = 1 := by kernel_rfl
theorem c_str : Tryz.prog.cellsOf 9 = 1 := by kernel_rfl
end
end Yd


namespace Yd
open Go Go.RowKit Go.Proofs

end Yd


namespace Yd
open Go Go.RowKit Go.Proofs

def mostR (r : Int) : Int := if r = 115 then 40 else if r = 116 ∨ r = 109 then 300 else 0
structure LineW (w : World) (na : Option Addr) (nn nc : Nat) (va : Option Addr) (vn vc : Nat) (names : List Bs) (vers : List To) : Prop where
 rn : Row w 1 encStr na nn nc names
 rv : Row w 2 encTo va vn vc vers
 wn : ∀ s ∈ names, wordB ⟨s.toArray⟩ = true
 wv : ∀ t ∈ vers, toOk t
 g : GlobL w
 T : Lib.Utf8Tabs 2 3 w
theorem LineW.below {w w' : World} {na : Option Addr} {nn nc : Nat} {va : Option Addr} {vn vc : Nat} {names : List Bs} {vers : List To} (h : LineW w na nn nc va vn vc names vers) (hb : Below w.heap.size w w') : LineW w' na nn nc va vn vc names vers :=
 ⟨h.rn.below hb rfl, h.rv.below hb rfl, h.wn, h.wv, h.g.below hb, Utf8Tabs_below h.T hb⟩
theorem call_c1 : ∀ args w, (callFunc 50 args).run Tryz.prog w = .ok (.enter 50 args) w := enters_of Tryz.func50 (by kernel_rfl) rfl
theorem call_c2 : ∀ args w, (callFunc 53 args).run Tryz.prog w = .ok (.enter 53 args) w := enters_of Tryz.func53 (by kernel_rfl) rfl
theorem LineW.names {w : World} {na : Option Addr} {nn nc : Nat} {va : Option Addr} {vn vc : Nat} {names : List Bs} {vers : List To} (h : LineW w na nn nc va vn vc names vers) :
   Calls Tryz.prog 52 #[.slice na nn nc, .func (.func 53) #[] #[]] w (Ret (.bool false) w) := by
 have := contStr na nn nc 53 #[] names (fun s => !wordB ⟨s.toArray⟩) w h.rn call_c2 (fun x _ W hb => by simpa using check2_any x W (Utf8Tabs_below h.T hb))
 rwa [List.any_eq_false.2 (fun s hs => by simp [h.wn s hs])] at this
theorem LineW.vers {w : World} {na : Option Addr} {nn nc : Nat} {va : Option Addr} {vn vc : Nat} {names : List Bs} {vers : List To} (h : LineW w na nn nc va vn vc names vers) :
   Calls Tryz.prog 49 #[.slice va vn vc, .func (.func 50) #[] #[]] w (Ret (.bool false) w) := by
 have := contTo va vn vc 50 #[] vers (fun _ => false) w h.rv call_c1 (fun x hx W hb => by simpa using check1_ok x W (Utf8Tabs_below h.T hb) (h.wv x hx))
 rwa [List.any_eq_false.2 (fun s hs => by simp)] at this
theorem most_any (r : Int) (w : World) : Calls Tryz.prog 48 #[.int .i32 r] w (Ret (.int .i64 (mostR r)) w) := by
 by_cases h1 : r = 115
 · subst h1
   go_enter Tryz.func48, Tryz.ntmps48
   go_wp2_with fail
   go_ret
   exact ⟨rfl, Below.refl _ _⟩
 · have e1 : (r == 115) = false := beq_eq_false_iff_ne.2 h1
   by_cases h2 : r = 116
   · subst h2
     go_enter Tryz.func48, Tryz.ntmps48
     go_wp2_with fail
     go_ret
     exact ⟨rfl, Below.refl _ _⟩
   · have e2 : (r == 116) = false := beq_eq_false_iff_ne.2 h2
     by_cases h3 : r = 109
     · subst h3
       go_enter Tryz.func48, Tryz.ntmps48
       go_wp2_with fail
       go_ret
       exact ⟨rfl, Below.refl _ _⟩
     · have e3 : (r == 109) = false := beq_eq_false_iff_ne.2 h3
       have hm : mostR r = 0 := by unfold mostR; rw [if_neg h1, if_neg (by omega)]
       rw [hm]
       go_enter Tryz.func48, Tryz.ntmps48
       go_wp2_with fail
       go_ret
       exact ⟨rfl, Below.refl _ _⟩
end Yd


namespace Yd
open Go Go.RowKit Go.Proofs

def encU8 (b : UInt8) : List Value := [.int .u8 (b.toNat : Int)]
instance cInsU8 : Cells encU8 1 := ⟨fun _ => rfl, by decide, fun x u h => by simp [encU8] at h; subst h; rfl⟩
theorem infoU8 : (Tryz.prog.info? 5).map (fun i => (i.zero.map (·.cells.size), i.size, i.bytes)) = some (some 1, 1, 1) := by kernel_rfl
theorem partsU8 : ∃ i z, Tryz.prog.info? 5 = some i ∧ i.zero = some z ∧ i.size = 1 ∧ i.bytes = 1 ∧ z.cells.size = 1 := parts_of infoU8

def digF : Nat → Nat → Bs
 | 0, _ => []
 | f + 1, n => if n = 0 then [] else digF f (n / 10) ++ [UInt8.ofNat (48 + n % 10)]
theorem digF_enough : ∀ (f g n : Nat), n ≤ f → n ≤ g → digF f n = digF g n
 | 0, 0, _, _, _ => rfl
 | 0, g + 1, n, hf, _ => by obtain rfl : n = 0 := by omega
                            simp [digF]
 | f + 1, 0, n, _, hg => by obtain rfl : n = 0 := by omega
                            simp [digF]
 | f + 1, g + 1, n, hf, hg => by
   simp only [digF]
   split
   · rfl
   · rw [digF_enough f g (n / 10) (by omega) (by omega)]
def digs (n : Nat) : Bs := digF n n
theorem digs_step {n : Nat} (h : 0 < n) : digs n = digs (n / 10) ++ [UInt8.ofNat (48 + n % 10)] := by
 obtain ⟨m, rfl⟩ : ∃ m, n = m + 1 := ⟨n - 1, by omega⟩
 show digF (m + 1) (m + 1) = _
 simp only [digF]
 rw [if_neg (by omega), digF_enough m ((m + 1) / 10) _ (by omega) (Nat.le_refl _)]
 rfl
theorem digs_len : ∀ (d n : Nat), n < 10 ^ d → (digs n).length ≤ d
 | d, 0, _ => by simp [digs, digF]
 | 0, n + 1, h => by simp at h
 | d + 1, n + 1, h => by
   rw [digs_step (by omega), List.length_append, List.length_singleton]
   have := digs_len d ((n + 1) / 10) (by rw [Nat.pow_succ] at h; omega)
   omega

theorem Own.newU8 (X : World) (B m : Nat) (hB : B ≤ X.heap.size) : Own (X.alloc (.cells #[.int .u8 (48 + (m : Int) % 10)] 5)) B 5 1 encU8 (.slice (some ⟨X.heap.size, 0, none⟩) 1 1) [UInt8.ofNat (48 + m % 10)] :=
 Own.new (hc := cInsU8) X B 5 #[.int .u8 (48 + (m : Int) % 10)] [UInt8.ofNat (48 + m % 10)] hB (by
   simp [encU8]; omega) (by simp [maxLen])

theorem digit_Text (n : Nat) (h1 : 1 ≤ n) (hn : n ≤ 100000) (w : World) : Calls Tryz.prog 102 #[.int .i64 n] w (Ret (.string ⟨(digs n).toArray⟩) w) := by
 obtain ⟨i, z, hi, hz, hsize, hby', hzs⟩ := partsU8
 have HI := hid (⟨hi, hz, hsize, hby', hzs⟩ : _ ∧ _ ∧ _ ∧ _ ∧ _)
 clear hi hz hsize hby' hzs
 go_enter Tryz.func102, Tryz.ntmps102
 go_wp2_with fail
 go_loopw [3, 4, 5] (fun v o b wr => ∃ (m : Nat) (a0 : Option Addr) (c0 : Nat) (ds : Bs) (f : Bool), v = .int .u64 m ∧ o = .slice a0 ds.length c0 ∧ b = .bool f ∧ digs n = digs m ++ ds ∧ (f = true → 0 < m) ∧ m ≤ n ∧ ds.length ≤ n ∧ ds.length + m ≤ n ∧
     Own wr w.heap.size 5 1 encU8 (.slice a0 ds.length c0) ds ∧ Below w.heap.size w wr) (fun v _ _ _ => (RowKit.intOf v).toNat)
 case atStart => exact ⟨n, none, 0, [], true, rfl, rfl, rfl, by simp, fun _ => by omega, Nat.le_refl _, Nat.zero_le _, by simp, Own.nil_ _ _ _ _ _, Below.refl _ _⟩
 case round =>
   obtain ⟨m, a0, c0, ds, f, rfl, rfl, rfl, hd, hf, hm, hl, hlm, how, hbw⟩ := hrel
   by_cases h0 : 0 < m
   · have HOW := hid how; have HBW := hid hbw; have HD := hid hd
     have HGT : ((10 : Int) > 0) := by decide
     clear how hbw hd
     have hm0 : ((m : Int) > 0) := by omega
     have HNW := hid (Own.newU8 wr w.heap.size m HBW.out.size)
     have HROW := hid ((HOW.out.below (belowA (Below.refl _ _) (.cells #[.int .u8 (48 + (m : Int) % 10)] 5)) rfl).row (by omega))
     have HN1 : Hid ([UInt8.ofNat (48 + m % 10)].length + ds.length = 1 + ds.length) := hid rfl
     have HN2 : Hid ((1 + ds.length) * 1 ≤ 140737488355328) := hid (by omega)
     have HN3 : Hid (1 + ds.length ≤ maxLen) := hid (by unfold maxLen; omega)
     have HN4 : Hid (w.heap.size ≤ (wr.alloc (.cells #[.int .u8 (48 + (m : Int) % 10)] 5)).heap.size) := hid (by have := HBW.out.size; simp; omega)
     have HB2 := hid ((HBW.out).alloc HBW.out.size (.cells #[.int .u8 (48 + (m : Int) % 10)] 5))
     have HD2 : Hid (digs n = digs (m / 10) ++ (UInt8.ofNat (48 + m % 10) :: ds)) := hid (by rw [HD.out, digs_step h0, List.append_assoc]; rfl)
     clear hf
     cases f
     · go_wp2_with (at_builtin; refine wpList_app rfl _ _ 99 rfl i z 1 Tryz.underlying99 HI.out.1 HI.out.2.1 HI.out.2.2.1 HI.out.2.2.2.1 HI.out.2.2.2.2 rfl HNW.out a0 ds.length c0 (1 + ds.length) ds rfl HROW.out HN1.out HN2.out HN3.out HN4.out ?_; intro a' c' w1 hown1 hg1 hat1)
       have HR1 := hid (⟨hown1, below_app HB2.out HNW.out (Nat.le_refl _) HN4.out hg1⟩ : _ ∧ _)
       clear hown1 hg1 hat1
       go_roundw
       case rel => exact ⟨m / 10, a', c', UInt8.ofNat (48 + m % 10) :: ds, false, by go_num, by rw [List.length_cons, Nat.add_comm], rfl, HD2.out, fun h => (by cases h), by omega, by rw [List.length_cons]; omega, by rw [List.length_cons]; omega, by rw [List.length_cons, Nat.add_comm]; exact HR1.out.1, HR1.out.2⟩
       case measure => simp [RowKit.intOf]; omega
     · go_wp2_with (at_builtin; refine wpList_app rfl _ _ 99 rfl i z 1 Tryz.underlying99 HI.out.1 HI.out.2.1 HI.out.2.2.1 HI.out.2.2.2.1 HI.out.2.2.2.2 rfl HNW.out a0 ds.length c0 (1 + ds.length) ds rfl HROW.out HN1.out HN2.out HN3.out HN4.out ?_; intro a' c' w1 hown1 hg1 hat1)
       have HR1 := hid (⟨hown1, below_app HB2.out HNW.out (Nat.le_refl _) HN4.out hg1⟩ : _ ∧ _)
       clear hown1 hg1 hat1
       go_roundw
       case rel => exact ⟨m / 10, a', c', UInt8.ofNat (48 + m % 10) :: ds, false, by go_num, by rw [List.length_cons, Nat.add_comm], rfl, HD2.out, fun h => (by cases h), by omega, by rw [List.length_cons]; omega, by rw [List.length_cons]; omega, by rw [List.length_cons, Nat.add_comm]; exact HR1.out.1, HR1.out.2⟩
       case measure => simp [RowKit.intOf]; omega
   · obtain rfl : m = 0 := by omega
     obtain rfl : f = false := by cases f; rfl; exact absurd (hf rfl) (by omega)
     obtain rfl : ds = digs n := by simpa [digs, digF] using hd.symm
     have hpos : 0 < (digs n).length := by rw [digs_step (by omega)]; simp
     have hrow := how.row (by omega)
     obtain ⟨_, bb, oo, _, rfl, _⟩ := hrow.at_ hpos
     have hcv : (convert 99 9 (.slice (some ⟨bb, oo, none⟩) (digs n).length c0)).run Tryz.prog wr = .ok (.string (strOfNums ((digs n).map (fun u => (u.toNat : Int))))) wr :=
       run_convert_bytes_arg wr 99 5 Tryz.underlying99 Tryz.underlying5 bb oo _ c0 ((digs n).map (fun u => (u.toNat : Int))) (by simp) (fun i hi => by
         obtain ⟨x, b', o', hx, hab, hc⟩ := hrow.at_ hi
         cases hab
         have := hc 0 _ rfl
         rw [Nat.mul_one, Nat.add_zero] at this
         rw [this, List.getD_eq_getElem?_getD, List.getElem?_map, hx]; rfl) 9 Tryz.underlying9
     have hst : strOfNums ((digs n).map (fun u => (u.toNat : Int))) = ⟨(digs n).toArray⟩ := by
       unfold strOfNums
       rw [List.map_map]
       congr 2
       conv => rhs; rw [← List.map_id (digs n)]
       apply List.map_congr_left
       intro u _
       simp
     rw [hst] at hcv
     have HBW := hid hbw
     clear how hbw hd hrow hst hpos
     go_wp2_with fail
     go_ret
     exact ⟨rfl, HBW.out⟩
end Yd
