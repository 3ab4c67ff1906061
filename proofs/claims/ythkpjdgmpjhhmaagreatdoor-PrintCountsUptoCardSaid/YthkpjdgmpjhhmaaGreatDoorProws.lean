import Derived.Test.YthkpjdgmpjhhmaaGreatDoorLine0
import Derived.LoopIn
import Derived.LoopNIn
import Derived.TacticsInMore
import Derived.OwnWalkIn
import Derived.Shelf.Abstract
import Derived.Shelf.RegionOpen
import Derived.Test.YthkpjdgmpjhhmaaGreatDoorProg
namespace Yd
open Go Go.RowKit Go.Proofs

attribute [local go_sem] Oper.semAt_some
section
variable {J Jx : List LnS → World → Prop} {D : Nat → Prop} {ls : List LnS} {l B : Nat} {w0 : World} {Ok : World → Prop}

set_option maxRecDepth 100000 in
set_option maxHeartbeats 1000000 in
theorem rowsEv (hJ : ∀ s X Y, J s X → Same (fun _ => True) X Y → J s Y)
    (hY : ∀ pre x args X, J pre X → pre ++ [x] <+: ls → RepLn B x args X → B ≤ X.heap.size → ∀ m, YieldAt Fence.wide m Tryz.prog l args X fun e Y =>
      (e = .returned (.bool true) ∧ J (pre ++ [x]) Y ∧ KeepOn D X Y) ∨ (e = .returned (.bool false) ∧ Jx (pre ++ [x]) Y ∧ KeepOn D X Y))
    (hOk : ∀ X Y, Ok X → KeepOn D X Y → Ok Y) (hOk2 : ∀ X Y, Ok X → Below X.heap.size X Y → Ok Y) (hOkr : ∀ X, Ok X → Reads w0 X ∧ B ≤ X.heap.size)
    (a : Option Addr) (n c : Nat) (xs : List EvC) (says : EvC → LnS) (sf : Nat) (cap : Array Value) (eg : ∀ args w, (callFunc sf args).run Tryz.prog w = .ok (.enter sf args) w) (hr : Row w0 9 encEv a n c xs)
    (hs : ∀ x ∈ xs, ∀ X, Ok X → Calls Tryz.prog sf (#[valEv x] ++ cap) X (RetLn (says x) X))
    (pre : List LnS) (hpre : pre ++ xs.map says <+: ls) (X : World) (hX : J pre X) (hOkX : Ok X) (m : Nat) :
    CallsIn Fence.wide m Tryz.prog 73 #[.slice a n c, .func (.func sf) #[] cap, .func (.yield l) #[] #[]] X fun e Y =>
      (e = .returned (.bool true) ∧ J (pre ++ xs.map says) Y ∧ Ok Y) ∨ (e = .returned (.bool false) ∧ ∃ p, p <+: ls ∧ Jx p Y) := by
  refine callsIn_of_wp Tryz.func73 rfl trivial ?_ rfl
  simp only [Tryz.ntmps73, List.size_toArray, List.length_cons, List.length_nil, Nat.reduceAdd, Nat.reduceSub, Array.replicate_succ, Array.replicate_zero, List.push_toArray, List.append_toArray, List.nil_append, List.cons_append]
  have hle := hr.le
  have HR := hid hr; have HS := hid hs; have HP := hid hpre; have HJ := hid hJ; have HY := hid hY; have HO := hid hOk; have HO2 := hid hOk2; have HOR := hid hOkr
  have HX := hid hX; have HOX := hid hOkX
  clear hr hs hpre hJ hY hOk hOk2 hOkr hX hOkX
  gi_wp2
  gi_loopw [11] (fun i wr => ∃ k : Nat, k ≤ n ∧ i = .int .i64 k ∧ J (pre ++ (xs.take k).map says) wr ∧ Ok wr) (fun i _ => n - (RowKit.intOf i).toNat)
  case atStart => exact ⟨0, Nat.zero_le _, rfl, by simpa using HX.out, HOX.out⟩
  case round =>
    obtain ⟨k, hk, rfl, hj, hok⟩ := hrel
    by_cases hlt : k < n
    · obtain ⟨x, b, o, hx, rfl, hc⟩ := (HR.out.reads (HOR.out _ hok).1).at_ hlt
      have h0 := hc 0 _ rfl
      have h1 := hc 1 _ rfl
      have h2 := hc 2 _ rfl
      have h3 := hc 3 _ rfl
      have h4 := hc 4 _ rfl
      have h5 := hc 5 _ rfl
      have h6 := hc 6 _ rfl
      have h7 := hc 7 _ rfl
      have h8 := hc 8 _ rfl
      simp only [Nat.add_zero] at h0
      have hkl : k < xs.length := by rw [HR.out.len]; exact hlt
      have htk : xs.take (k + 1) = xs.take k ++ [x] := by
        rw [List.take_add_one, hx]; rfl
      have hstep : Hid ((pre ++ (xs.take k).map says) ++ [says x] = pre ++ (xs.take (k + 1)).map says) := by rw [htk]; exact hid (by simp)
      have hpx : Hid ((pre ++ (xs.take k).map says) ++ [says x] <+: ls) := by
        rw [hstep.out]
        exact hid (List.IsPrefix.trans (by
          refine ⟨(xs.drop (k + 1)).map says, ?_⟩
          rw [List.append_assoc, ← List.map_append, List.take_append_drop]) HP.out)
      have hb8 : Below wr.heap.size wr (wr.alloc (.cells (cellsEv x) 49)) := (Below.refl _ _).alloc (Nat.le_refl _) _
      have hok8 := HO2.out _ _ hok hb8
      have hj8 := HJ.out _ _ _ hj (.of_below hb8 (fun i _ hi => hi))
      have HC := hid (HS.out x (List.mem_of_getElem? hx) _ hok8)
      have HOK8 := hid hok8; have HJ8 := hid hj8; have HX1 := hid hx
      clear hc hx hok hj hok8 hj8 hb8 htk
      gi_wp2
      refine ⟨trivial, fun h => (by cases h), ?_⟩
      refine (callsIn_wide.2 HC.out).mono ?_
      rintro e w1 ⟨lc, rfl, hln, hb1⟩
      have hok1 := HO2.out _ _ HOK8.out hb1
      have hj1 := HJ.out _ _ _ HJ8.out (.of_below hb1 (fun i _ hi => hi))
      obtain ⟨fn, tmps, assign, body, hy, hR⟩ := HY.out _ (says x) #[valLn lc] w1 hj1 hpx.out ⟨lc, rfl, hln.mono (HOR.out _ HOK8.out).2⟩ (HOR.out _ hok1).2 (m - 1)
      have HOK1 := hid hok1
      clear hok1 hj1 hln hb1
      gi_wp2
      refine ⟨fun h => (by cases h), ?_⟩
      refine hR.mono ?_
      rintro e Y (⟨rfl, hJ', hk'⟩ | ⟨rfl, hJx', _⟩)
      · clear hR hy
        have HJ2 := hid hJ'; have HOK2 := hid (HO.out _ _ HOK1.out hk')
        clear hJ' hk'
        gi_wp2
        go_roundw
        case rel => exact ⟨k + 1, by omega, by go_num, by rw [← hstep.out]; exact HJ2.out, HOK2.out⟩
        case measure => simp [RowKit.intOf]; omega
      · clear hR hy
        have HJ2 := hid hJx'
        clear hJx'
        gi_wp2
        go_ret
        exact .inr ⟨rfl, _, hpx.out, HJ2.out⟩
    · have hkn : k = n := by omega
      have htk : xs.take k = xs := List.take_of_length_le (by rw [HR.out.len]; omega)
      rw [htk] at hj
      have HJ2 := hid hj; have HOK2 := hid hok
      clear hj hok htk
      gi_wp2
      go_ret
      exact .inl ⟨rfl, HJ2.out, HOK2.out⟩

set_option maxRecDepth 100000 in
set_option maxHeartbeats 1000000 in
theorem rowsOr (hJ : ∀ s X Y, J s X → Same (fun _ => True) X Y → J s Y)
    (hY : ∀ pre x args X, J pre X → pre ++ [x] <+: ls → RepLn B x args X → B ≤ X.heap.size → ∀ m, YieldAt Fence.wide m Tryz.prog l args X fun e Y =>
      (e = .returned (.bool true) ∧ J (pre ++ [x]) Y ∧ KeepOn D X Y) ∨ (e = .returned (.bool false) ∧ Jx (pre ++ [x]) Y ∧ KeepOn D X Y))
    (hOk : ∀ X Y, Ok X → KeepOn D X Y → Ok Y) (hOk2 : ∀ X Y, Ok X → Below X.heap.size X Y → Ok Y) (hOkr : ∀ X, Ok X → Reads w0 X ∧ B ≤ X.heap.size)
    (a : Option Addr) (n c : Nat) (xs : List OrC) (says : OrC → LnS) (sf : Nat) (cap : Array Value) (eg : ∀ args w, (callFunc sf args).run Tryz.prog w = .ok (.enter sf args) w) (hr : Row w0 2 encOr a n c xs)
    (hs : ∀ x ∈ xs, ∀ X, Ok X → Calls Tryz.prog sf (#[valOr x] ++ cap) X (RetLn (says x) X))
    (pre : List LnS) (hpre : pre ++ xs.map says <+: ls) (X : World) (hX : J pre X) (hOkX : Ok X) (m : Nat) :
    CallsIn Fence.wide m Tryz.prog 74 #[.slice a n c, .func (.func sf) #[] cap, .func (.yield l) #[] #[]] X fun e Y =>
      (e = .returned (.bool true) ∧ J (pre ++ xs.map says) Y ∧ Ok Y) ∨ (e = .returned (.bool false) ∧ ∃ p, p <+: ls ∧ Jx p Y) := by
  refine callsIn_of_wp Tryz.func74 rfl trivial ?_ rfl
  simp only [Tryz.ntmps74, List.size_toArray, List.length_cons, List.length_nil, Nat.reduceAdd, Nat.reduceSub, Array.replicate_succ, Array.replicate_zero, List.push_toArray, List.append_toArray, List.nil_append, List.cons_append]
  have hle := hr.le
  have HR := hid hr; have HS := hid hs; have HP := hid hpre; have HJ := hid hJ; have HY := hid hY; have HO := hid hOk; have HO2 := hid hOk2; have HOR := hid hOkr
  have HX := hid hX; have HOX := hid hOkX
  clear hr hs hpre hJ hY hOk hOk2 hOkr hX hOkX
  gi_wp2
  gi_loopw [11] (fun i wr => ∃ k : Nat, k ≤ n ∧ i = .int .i64 k ∧ J (pre ++ (xs.take k).map says) wr ∧ Ok wr) (fun i _ => n - (RowKit.intOf i).toNat)
  case atStart => exact ⟨0, Nat.zero_le _, rfl, by simpa using HX.out, HOX.out⟩
  case round =>
    obtain ⟨k, hk, rfl, hj, hok⟩ := hrel
    by_cases hlt : k < n
    · obtain ⟨x, b, o, hx, rfl, hc⟩ := (HR.out.reads (HOR.out _ hok).1).at_ hlt
      have h0 := hc 0 _ rfl
      have h1 := hc 1 _ rfl
      simp only [Nat.add_zero] at h0
      have hkl : k < xs.length := by rw [HR.out.len]; exact hlt
      have htk : xs.take (k + 1) = xs.take k ++ [x] := by
        rw [List.take_add_one, hx]; rfl
      have hstep : Hid ((pre ++ (xs.take k).map says) ++ [says x] = pre ++ (xs.take (k + 1)).map says) := by rw [htk]; exact hid (by simp)
      have hpx : Hid ((pre ++ (xs.take k).map says) ++ [says x] <+: ls) := by
        rw [hstep.out]
        exact hid (List.IsPrefix.trans (by
          refine ⟨(xs.drop (k + 1)).map says, ?_⟩
          rw [List.append_assoc, ← List.map_append, List.take_append_drop]) HP.out)
      have hb8 : Below wr.heap.size wr (wr.alloc (.cells (cellsOr x) 72)) := (Below.refl _ _).alloc (Nat.le_refl _) _
      have hok8 := HO2.out _ _ hok hb8
      have hj8 := HJ.out _ _ _ hj (.of_below hb8 (fun i _ hi => hi))
      have HC := hid (HS.out x (List.mem_of_getElem? hx) _ hok8)
      have HOK8 := hid hok8; have HJ8 := hid hj8; have HX1 := hid hx
      clear hc hx hok hj hok8 hj8 hb8 htk
      gi_wp2
      refine ⟨trivial, fun h => (by cases h), ?_⟩
      refine (callsIn_wide.2 HC.out).mono ?_
      rintro e w1 ⟨lc, rfl, hln, hb1⟩
      have hok1 := HO2.out _ _ HOK8.out hb1
      have hj1 := HJ.out _ _ _ HJ8.out (.of_below hb1 (fun i _ hi => hi))
      obtain ⟨fn, tmps, assign, body, hy, hR⟩ := HY.out _ (says x) #[valLn lc] w1 hj1 hpx.out ⟨lc, rfl, hln.mono (HOR.out _ HOK8.out).2⟩ (HOR.out _ hok1).2 (m - 1)
      have HOK1 := hid hok1
      clear hok1 hj1 hln hb1
      gi_wp2
      refine ⟨fun h => (by cases h), ?_⟩
      refine hR.mono ?_
      rintro e Y (⟨rfl, hJ', hk'⟩ | ⟨rfl, hJx', _⟩)
      · clear hR hy
        have HJ2 := hid hJ'; have HOK2 := hid (HO.out _ _ HOK1.out hk')
        clear hJ' hk'
        gi_wp2
        go_roundw
        case rel => exact ⟨k + 1, by omega, by go_num, by rw [← hstep.out]; exact HJ2.out, HOK2.out⟩
        case measure => simp [RowKit.intOf]; omega
      · clear hR hy
        have HJ2 := hid hJx'
        clear hJx'
        gi_wp2
        go_ret
        exact .inr ⟨rfl, _, hpx.out, HJ2.out⟩
    · have hkn : k = n := by omega
      have htk : xs.take k = xs := List.take_of_length_le (by rw [HR.out.len]; omega)
      rw [htk] at hj
      have HJ2 := hid hj; have HOK2 := hid hok
      clear hj hok htk
      gi_wp2
      go_ret
      exact .inl ⟨rfl, HJ2.out, HOK2.out⟩

set_option maxRecDepth 100000 in
set_option maxHeartbeats 1000000 in
theorem rowsMa (hJ : ∀ s X Y, J s X → Same (fun _ => True) X Y → J s Y)
    (hY : ∀ pre x args X, J pre X → pre ++ [x] <+: ls → RepLn B x args X → B ≤ X.heap.size → ∀ m, YieldAt Fence.wide m Tryz.prog l args X fun e Y =>
      (e = .returned (.bool true) ∧ J (pre ++ [x]) Y ∧ KeepOn D X Y) ∨ (e = .returned (.bool false) ∧ Jx (pre ++ [x]) Y ∧ KeepOn D X Y))
    (hOk : ∀ X Y, Ok X → KeepOn D X Y → Ok Y) (hOk2 : ∀ X Y, Ok X → Below X.heap.size X Y → Ok Y) (hOkr : ∀ X, Ok X → Reads w0 X ∧ B ≤ X.heap.size)
    (a : Option Addr) (n c : Nat) (xs : List MaC) (says : MaC → LnS) (sf : Nat) (cap : Array Value) (eg : ∀ args w, (callFunc sf args).run Tryz.prog w = .ok (.enter sf args) w) (hr : Row w0 4 encMa a n c xs)
    (hs : ∀ x ∈ xs, ∀ X, Ok X → Calls Tryz.prog sf (#[valMa x] ++ cap) X (RetLn (says x) X))
    (pre : List LnS) (hpre : pre ++ xs.map says <+: ls) (X : World) (hX : J pre X) (hOkX : Ok X) (m : Nat) :
    CallsIn Fence.wide m Tryz.prog 75 #[.slice a n c, .func (.func sf) #[] cap, .func (.yield l) #[] #[]] X fun e Y =>
      (e = .returned (.bool true) ∧ J (pre ++ xs.map says) Y ∧ Ok Y) ∨ (e = .returned (.bool false) ∧ ∃ p, p <+: ls ∧ Jx p Y) := by
  refine callsIn_of_wp Tryz.func75 rfl trivial ?_ rfl
  simp only [Tryz.ntmps75, List.size_toArray, List.length_cons, List.length_nil, Nat.reduceAdd, Nat.reduceSub, Array.replicate_succ, Array.replicate_zero, List.push_toArray, List.append_toArray, List.nil_append, List.cons_append]
  have hle := hr.le
  have HR := hid hr; have HS := hid hs; have HP := hid hpre; have HJ := hid hJ; have HY := hid hY; have HO := hid hOk; have HO2 := hid hOk2; have HOR := hid hOkr
  have HX := hid hX; have HOX := hid hOkX
  clear hr hs hpre hJ hY hOk hOk2 hOkr hX hOkX
  gi_wp2
  gi_loopw [11] (fun i wr => ∃ k : Nat, k ≤ n ∧ i = .int .i64 k ∧ J (pre ++ (xs.take k).map says) wr ∧ Ok wr) (fun i _ => n - (RowKit.intOf i).toNat)
  case atStart => exact ⟨0, Nat.zero_le _, rfl, by simpa using HX.out, HOX.out⟩
  case round =>
    obtain ⟨k, hk, rfl, hj, hok⟩ := hrel
    by_cases hlt : k < n
    · obtain ⟨x, b, o, hx, rfl, hc⟩ := (HR.out.reads (HOR.out _ hok).1).at_ hlt
      have h0 := hc 0 _ rfl
      have h1 := hc 1 _ rfl
      have h2 := hc 2 _ rfl
      have h3 := hc 3 _ rfl
      simp only [Nat.add_zero] at h0
      have hkl : k < xs.length := by rw [HR.out.len]; exact hlt
      have htk : xs.take (k + 1) = xs.take k ++ [x] := by
        rw [List.take_add_one, hx]; rfl
      have hstep : Hid ((pre ++ (xs.take k).map says) ++ [says x] = pre ++ (xs.take (k + 1)).map says) := by rw [htk]; exact hid (by simp)
      have hpx : Hid ((pre ++ (xs.take k).map says) ++ [says x] <+: ls) := by
        rw [hstep.out]
        exact hid (List.IsPrefix.trans (by
          refine ⟨(xs.drop (k + 1)).map says, ?_⟩
          rw [List.append_assoc, ← List.map_append, List.take_append_drop]) HP.out)
      have hb8 : Below wr.heap.size wr (wr.alloc (.cells (cellsMa x) 79)) := (Below.refl _ _).alloc (Nat.le_refl _) _
      have hok8 := HO2.out _ _ hok hb8
      have hj8 := HJ.out _ _ _ hj (.of_below hb8 (fun i _ hi => hi))
      have HC := hid (HS.out x (List.mem_of_getElem? hx) _ hok8)
      have HOK8 := hid hok8; have HJ8 := hid hj8; have HX1 := hid hx
      clear hc hx hok hj hok8 hj8 hb8 htk
      gi_wp2
      refine ⟨trivial, fun h => (by cases h), ?_⟩
      refine (callsIn_wide.2 HC.out).mono ?_
      rintro e w1 ⟨lc, rfl, hln, hb1⟩
      have hok1 := HO2.out _ _ HOK8.out hb1
      have hj1 := HJ.out _ _ _ HJ8.out (.of_below hb1 (fun i _ hi => hi))
      obtain ⟨fn, tmps, assign, body, hy, hR⟩ := HY.out _ (says x) #[valLn lc] w1 hj1 hpx.out ⟨lc, rfl, hln.mono (HOR.out _ HOK8.out).2⟩ (HOR.out _ hok1).2 (m - 1)
      have HOK1 := hid hok1
      clear hok1 hj1 hln hb1
      gi_wp2
      refine ⟨fun h => (by cases h), ?_⟩
      refine hR.mono ?_
      rintro e Y (⟨rfl, hJ', hk'⟩ | ⟨rfl, hJx', _⟩)
      · clear hR hy
        have HJ2 := hid hJ'; have HOK2 := hid (HO.out _ _ HOK1.out hk')
        clear hJ' hk'
        gi_wp2
        go_roundw
        case rel => exact ⟨k + 1, by omega, by go_num, by rw [← hstep.out]; exact HJ2.out, HOK2.out⟩
        case measure => simp [RowKit.intOf]; omega
      · clear hR hy
        have HJ2 := hid hJx'
        clear hJx'
        gi_wp2
        go_ret
        exact .inr ⟨rfl, _, hpx.out, HJ2.out⟩
    · have hkn : k = n := by omega
      have htk : xs.take k = xs := List.take_of_length_le (by rw [HR.out.len]; omega)
      rw [htk] at hj
      have HJ2 := hid hj; have HOK2 := hid hok
      clear hj hok htk
      gi_wp2
      go_ret
      exact .inl ⟨rfl, HJ2.out, HOK2.out⟩

set_option maxRecDepth 100000 in
set_option maxHeartbeats 1000000 in
theorem rowsWa (hJ : ∀ s X Y, J s X → Same (fun _ => True) X Y → J s Y)
    (hY : ∀ pre x args X, J pre X → pre ++ [x] <+: ls → RepLn B x args X → B ≤ X.heap.size → ∀ m, YieldAt Fence.wide m Tryz.prog l args X fun e Y =>
      (e = .returned (.bool true) ∧ J (pre ++ [x]) Y ∧ KeepOn D X Y) ∨ (e = .returned (.bool false) ∧ Jx (pre ++ [x]) Y ∧ KeepOn D X Y))
    (hOk : ∀ X Y, Ok X → KeepOn D X Y → Ok Y) (hOk2 : ∀ X Y, Ok X → Below X.heap.size X Y → Ok Y) (hOkr : ∀ X, Ok X → Reads w0 X ∧ B ≤ X.heap.size)
    (a : Option Addr) (n c : Nat) (xs : List Wa) (says : Wa → LnS) (sf : Nat) (cap : Array Value) (eg : ∀ args w, (callFunc sf args).run Tryz.prog w = .ok (.enter sf args) w) (hr : Row w0 2 encWa a n c xs)
    (hs : ∀ x ∈ xs, ∀ X, Ok X → Calls Tryz.prog sf (#[valWa x] ++ cap) X (RetLn (says x) X))
    (pre : List LnS) (hpre : pre ++ xs.map says <+: ls) (X : World) (hX : J pre X) (hOkX : Ok X) (m : Nat) :
    CallsIn Fence.wide m Tryz.prog 76 #[.slice a n c, .func (.func sf) #[] cap, .func (.yield l) #[] #[]] X fun e Y =>
      (e = .returned (.bool true) ∧ J (pre ++ xs.map says) Y ∧ Ok Y) ∨ (e = .returned (.bool false) ∧ ∃ p, p <+: ls ∧ Jx p Y) := by
  refine callsIn_of_wp Tryz.func76 rfl trivial ?_ rfl
  simp only [Tryz.ntmps76, List.size_toArray, List.length_cons, List.length_nil, Nat.reduceAdd, Nat.reduceSub, Array.replicate_succ, Array.replicate_zero, List.push_toArray, List.append_toArray, List.nil_append, List.cons_append]
  have hle := hr.le
  have HR := hid hr; have HS := hid hs; have HP := hid hpre; have HJ := hid hJ; have HY := hid hY; have HO := hid hOk; have HO2 := hid hOk2; have HOR := hid hOkr
  have HX := hid hX; have HOX := hid hOkX
  clear hr hs hpre hJ hY hOk hOk2 hOkr hX hOkX
  gi_wp2
  gi_loopw [11] (fun i wr => ∃ k : Nat, k ≤ n ∧ i = .int .i64 k ∧ J (pre ++ (xs.take k).map says) wr ∧ Ok wr) (fun i _ => n - (RowKit.intOf i).toNat)
  case atStart => exact ⟨0, Nat.zero_le _, rfl, by simpa using HX.out, HOX.out⟩
  case round =>
    obtain ⟨k, hk, rfl, hj, hok⟩ := hrel
    by_cases hlt : k < n
    · obtain ⟨x, b, o, hx, rfl, hc⟩ := (HR.out.reads (HOR.out _ hok).1).at_ hlt
      have h0 := hc 0 _ rfl
      have h1 := hc 1 _ rfl
      simp only [Nat.add_zero] at h0
      have hkl : k < xs.length := by rw [HR.out.len]; exact hlt
      have htk : xs.take (k + 1) = xs.take k ++ [x] := by
        rw [List.take_add_one, hx]; rfl
      have hstep : Hid ((pre ++ (xs.take k).map says) ++ [says x] = pre ++ (xs.take (k + 1)).map says) := by rw [htk]; exact hid (by simp)
      have hpx : Hid ((pre ++ (xs.take k).map says) ++ [says x] <+: ls) := by
        rw [hstep.out]
        exact hid (List.IsPrefix.trans (by
          refine ⟨(xs.drop (k + 1)).map says, ?_⟩
          rw [List.append_assoc, ← List.map_append, List.take_append_drop]) HP.out)
      have hb8 : Below wr.heap.size wr (wr.alloc (.cells (cellsWa x) 82)) := (Below.refl _ _).alloc (Nat.le_refl _) _
      have hok8 := HO2.out _ _ hok hb8
      have hj8 := HJ.out _ _ _ hj (.of_below hb8 (fun i _ hi => hi))
      have HC := hid (HS.out x (List.mem_of_getElem? hx) _ hok8)
      have HOK8 := hid hok8; have HJ8 := hid hj8; have HX1 := hid hx
      clear hc hx hok hj hok8 hj8 hb8 htk
      gi_wp2
      refine ⟨trivial, fun h => (by cases h), ?_⟩
      refine (callsIn_wide.2 HC.out).mono ?_
      rintro e w1 ⟨lc, rfl, hln, hb1⟩
      have hok1 := HO2.out _ _ HOK8.out hb1
      have hj1 := HJ.out _ _ _ HJ8.out (.of_below hb1 (fun i _ hi => hi))
      obtain ⟨fn, tmps, assign, body, hy, hR⟩ := HY.out _ (says x) #[valLn lc] w1 hj1 hpx.out ⟨lc, rfl, hln.mono (HOR.out _ HOK8.out).2⟩ (HOR.out _ hok1).2 (m - 1)
      have HOK1 := hid hok1
      clear hok1 hj1 hln hb1
      gi_wp2
      refine ⟨fun h => (by cases h), ?_⟩
      refine hR.mono ?_
      rintro e Y (⟨rfl, hJ', hk'⟩ | ⟨rfl, hJx', _⟩)
      · clear hR hy
        have HJ2 := hid hJ'; have HOK2 := hid (HO.out _ _ HOK1.out hk')
        clear hJ' hk'
        gi_wp2
        go_roundw
        case rel => exact ⟨k + 1, by omega, by go_num, by rw [← hstep.out]; exact HJ2.out, HOK2.out⟩
        case measure => simp [RowKit.intOf]; omega
      · clear hR hy
        have HJ2 := hid hJx'
        clear hJx'
        gi_wp2
        go_ret
        exact .inr ⟨rfl, _, hpx.out, HJ2.out⟩
    · have hkn : k = n := by omega
      have htk : xs.take k = xs := List.take_of_length_le (by rw [HR.out.len]; omega)
      rw [htk] at hj
      have HJ2 := hid hj; have HOK2 := hid hok
      clear hj hok htk
      gi_wp2
      go_ret
      exact .inl ⟨rfl, HJ2.out, HOK2.out⟩
end
end Yd
