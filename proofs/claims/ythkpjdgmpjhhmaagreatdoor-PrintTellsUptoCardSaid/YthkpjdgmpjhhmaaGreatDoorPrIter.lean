import Derived.Test.YthkpjdgmpjhhmaaGreatDoorLine0
import Derived.LoopIn
import Derived.LoopNIn
import Derived.TacticsInMore
import Derived.OwnWalkIn
import Derived.Shelf.Abstract
import Derived.Shelf.RegionOpen
import Derived.Test.YthkpjdgmpjhhmaaGreatDoorProg
import Derived.Test.YthkpjdgmpjhhmaaGreatDoorLinesL
import Derived.Test.YthkpjdgmpjhhmaaGreatDoorShaped
set_option maxRecDepth 200000
set_option maxHeartbeats 8000000
namespace Yd
open Go Go.RowKit Go.Proofs

attribute [local go_sem] Oper.semAt_some
section
variable {J Jx : List LnS → World → Prop} {D : Nat → Prop} {ls : List LnS} {l B : Nat} {w0 : World} {Ok : World → Prop}

theorem rowsEv (hJ : ∀ s X Y, J s X → Same (fun _ => True) X Y → J s Y)
   (hY : ∀ pre x args X, J pre X → pre ++ [x] <+: ls → RepLn B x args X → B ≤ X.heap.size → ∀ m, YieldAt Fence.wide m Tryz.prog l args X fun e Y =>
     (e = .returned (.bool true) ∧ J (pre ++ [x]) Y ∧ KeepOn D X Y) ∨ (e = .returned (.bool false) ∧ Jx (pre ++ [x]) Y ∧ KeepOn D X Y))
   (hOk : ∀ X Y, Ok X → KeepOn D X Y → Ok Y) (hOk2 : ∀ X Y, Ok X → Below X.heap.size X Y → Ok Y) (hOkr : ∀ X, Ok X → Reads w0 X ∧ B ≤ X.heap.size)
   (a : Option Addr) (n c : Nat) (xs : List EvC) (says : EvC → LnS) (sf : Nat) (cap : Array Value) (eg : ∀ args w, (callFunc sf args).run Tryz.prog w = .ok (.enter sf args) w) (hr : Row w0 9 encEv a n c xs)
   (hs : ∀ x ∈ xs, ∀ X, Ok X → Calls Tryz.prog sf (#[valEv x] ++ cap) X (RetLn (says x) X))
   (pre : List LnS) (hpre : pre ++ xs.map says <+: ls) (X : World) (hX : J pre X) (hOkX : Ok X) (m : Nat) :
   CallsIn Fence.wide m Tryz.prog 73 #[.slice a n c, .func (.func sf) #[] cap, .func (.yield l) #[] #[]] X fun e Y =>
     (e = .returned (.bool true) ∧ J (pre ++ xs.map says) Y ∧ Ok Y) ∨ (e = .returned (.bool false) ∧ ∃ p, p <+: ls ∧ Jx p Y) := by
 refine callsIn_of_wp Tryz.func73 rfl trivial ?_ rfl
 simp only [Tryz.ntmps73, List.size_toArray, List.length_cons, List.length_nil, Nat.reduceAdd, Nat.reduceSub, Array.replicate_succ, Array.replicate_zero, List.push_toArray, List.append_toArray, List.nil_append, List.cons_append]
 have hle := hr.le
 have HR := hid hr; have HS := hid hs; have HP := hid hpre; have HJ := hid hJ; have HY := hid hY; have HO := hid hOk; have HO2 := hid hOk2; have HOR := hid hOkr
 have HX := hid hX; have HOX := hid hOkX
 clear hr hs hpre hJ hY hOk hOk2 hOkr hX hOkX
 gi_wp2
 gi_loopw [11] (fun i wr => ∃ k : Nat, k ≤ n ∧ i = .int .i64 k ∧ J (pre ++ (xs.take k).map says) wr ∧ Ok wr) (fun i _ => n - (RowKit.intOf i).toNat)
 case atStart => exact ⟨0, Nat.zero_le _, rfl, by simpa using HX.out, HOX.out⟩
 case round =>
   obtain ⟨k, hk, rfl, hj, hok⟩ := hrel
   by_cases hlt : k < n
   · obtain ⟨x, b, o, hx, rfl, hc⟩ := (HR.out.reads (HOR.out _ hok).1).at_ hlt
     have h0 := hc 0 _ rfl
     have h1 := hc 1 _ rfl
     have h2 := hc 2 _ rfl
     have h3 := hc 3 _ rfl
     have h4 := hc 4 _ rfl
     have h5 := hc 5 _ rfl
     have h6 := hc 6 _ rfl
     have h7 := hc 7 _ rfl
     have h8 := hc 8 _ rfl
     simp only [Nat.add_zero] at h0
     have hkl : k < xs.length := by rw [HR.out.len]; exact hlt
     have htk : xs.take (k + 1) = xs.take k ++ [x] := by
       rw [List.take_add_one, hx]; rfl
     have hstep : Hid ((pre ++ (xs.take k).map says) ++ [says x] = pre ++ (xs.take (k + 1)).map says) := by rw [htk]; exact hid (by simp)
     have hpx : Hid ((pre ++ (xs.take k).map says) ++ [says x] <+: ls) := by
       rw [hstep.out]
       exact hid (List.IsPrefix.trans (by
         refine ⟨(xs.drop (k + 1)).map says, ?_⟩
         rw [List.append_assoc, ← List.map_append, List.take_append_drop]) HP.out)
     have hb8 : Below wr.heap.size wr (wr.alloc (.cells (cellsEv x) 49)) := (Below.refl _ _).alloc (Nat.le_refl _) _
     have hok8 := HO2.out _ _ hok hb8
     have hj8 := HJ.out _ _ _ hj (.of_below hb8 (fun i _ hi => hi))
     have HC := hid (HS.out x (List.mem_of_getElem? hx) _ hok8)
     have HOK8 := hid hok8; have HJ8 := hid hj8; have HX1 := hid hx
     clear hc hx hok hj hok8 hj8 hb8 htk
     gi_wp2
     refine ⟨trivial, fun h => (by cases h), ?_⟩
     refine (callsIn_wide.2 HC.out).mono ?_
     rintro e w1 ⟨lc, rfl, hln, hb1⟩
     have hok1 := HO2.out _ _ HOK8.out hb1
     have hj1 := HJ.out _ _ _ HJ8.out (.of_below hb1 (fun i _ hi => hi))
     obtain ⟨fn, tmps, assign, body, hy, hR⟩ := HY.out _ (says x) #[valLn lc] w1 hj1 hpx.out ⟨lc, rfl, hln.mono (HOR.out _ HOK8.out).2⟩ (HOR.out _ hok1).2 (m - 1)
     have HOK1 := hid hok1
     clear hok1 hj1 hln hb1
     gi_wp2
     refine ⟨fun h => (by cases h), ?_⟩
     refine hR.mono ?_
     rintro e Y (⟨rfl, hJ', hk'⟩ | ⟨rfl, hJx', _⟩)
     · clear hR hy
       have HJ2 := hid hJ'; have HOK2 := hid (HO.out _ _ HOK1.out hk')
       clear hJ' hk'
       gi_wp2
       go_roundw
       case rel => exact ⟨k + 1, by omega, by go_num, by rw [← hstep.out]; exact HJ2.out, HOK2.out⟩
       case measure => simp [RowKit.intOf]; omega
     · clear hR hy
       have HJ2 := hid hJx'
       clear hJx'
       gi_wp2
       go_ret
       exact .inr ⟨rfl, _, hpx.out, HJ2.out⟩
   · have hkn : k = n := by omega
     have htk : xs.take k = xs := List.take_of_length_le (by rw [HR.out.len]; omega)
     rw [htk] at hj
     have HJ2 := hid hj; have HOK2 := hid hok
     clear hj hok htk
     gi_wp2
     go_ret
     exact .inl ⟨rfl, HJ2.out, HOK2.out⟩

theorem rowsOr (hJ : ∀ s X Y, J s X → Same (fun _ => True) X Y → J s Y)
   (hY : ∀ pre x args X, J pre X → pre ++ [x] <+: ls → RepLn B x args X → B ≤ X.heap.size → ∀ m, YieldAt Fence.wide m Tryz.prog l args X fun e Y =>
     (e = .returned (.bool true) ∧ J (pre ++ [x]) Y ∧ KeepOn D X Y) ∨ (e = .returned (.bool false) ∧ Jx (pre ++ [x]) Y ∧ KeepOn D X Y))
   (hOk : ∀ X Y, Ok X → KeepOn D X Y → Ok Y) (hOk2 : ∀ X Y, Ok X → Below X.heap.size X Y → Ok Y) (hOkr : ∀ X, Ok X → Reads w0 X ∧ B ≤ X.heap.size)
   (a : Option Addr) (n c : Nat) (xs : List OrC) (says : OrC → LnS) (sf : Nat) (cap : Array Value) (eg : ∀ args w, (callFunc sf args).run Tryz.prog w = .ok (.enter sf args) w) (hr : Row w0 2 encOr a n c xs)
   (hs : ∀ x ∈ xs, ∀ X, Ok X → Calls Tryz.prog sf (#[valOr x] ++ cap) X (RetLn (says x) X))
   (pre : List LnS) (hpre : pre ++ xs.map says <+: ls) (X : World) (hX : J pre X) (hOkX : Ok X) (m : Nat) :
   CallsIn Fence.wide m Tryz.prog 74 #[.slice a n c, .func (.func sf) #[] cap, .func (.yield l) #[] #[]] X fun e Y =>
     (e = .returned (.bool true) ∧ J (pre ++ xs.map says) Y ∧ Ok Y) ∨ (e = .returned (.bool false) ∧ ∃ p, p <+: ls ∧ Jx p Y) := by
 refine callsIn_of_wp Tryz.func74 rfl trivial ?_ rfl
 simp only [Tryz.ntmps74, List.size_toArray, List.length_cons, List.length_nil, Nat.reduceAdd, Nat.reduceSub, Array.replicate_succ, Array.replicate_zero, List.push_toArray, List.append_toArray, List.nil_append, List.cons_append]
 have hle := hr.le
 have HR := hid hr; have HS := hid hs; have HP := hid hpre; have HJ := hid hJ; have HY := hid hY; have HO := hid hOk; have HO2 := hid hOk2; have HOR := hid hOkr
 have HX := hid hX; have HOX := hid hOkX
 clear hr hs hpre hJ hY hOk hOk2 hOkr hX hOkX
 gi_wp2
 gi_loopw [11] (fun i wr => ∃ k : Nat, k ≤ n ∧ i = .int .i64 k ∧ J (pre ++ (xs.take k).map says) wr ∧ Ok wr) (fun i _ => n - (RowKit.intOf i).toNat)
 case atStart => exact ⟨0, Nat.zero_le _, rfl, by simpa using HX.out, HOX.out⟩
 case round =>
   obtain ⟨k, hk, rfl, hj, hok⟩ := hrel
   by_cases hlt : k < n
   · obtain ⟨x, b, o, hx, rfl, hc⟩ := (HR.out.reads (HOR.out _ hok).1).at_ hlt
     have h0 := hc 0 _ rfl
     have h1 := hc 1 _ rfl
     simp only [Nat.add_zero] at h0
     have hkl : k < xs.length := by rw [HR.out.len]; exact hlt
     have htk : xs.take (k + 1) = xs.take k ++ [x] := by
       rw [List.take_add_one, hx]; rfl
     have hstep : Hid ((pre ++ (xs.take k).map says) ++ [says x] = pre ++ (xs.take (k + 1)).map says) := by rw [htk]; exact hid (by simp)
     have hpx : Hid ((pre ++ (xs.take k).map says) ++ [says x] <+: ls) := by
       rw [hstep.out]
       exact hid (List.IsPrefix.trans (by
         refine ⟨(xs.drop (k + 1)).map says, ?_⟩
         rw [List.append_assoc, ← List.map_append, List.take_append_drop]) HP.out)
     have hb8 : Below wr.heap.size wr (wr.alloc (.cells (cellsOr x) 72)) := (Below.refl _ _).alloc (Nat.le_refl _) _
     have hok8 := HO2.out _ _ hok hb8
     have hj8 := HJ.out _ _ _ hj (.of_below hb8 (fun i _ hi => hi))
     have HC := hid (HS.out x (List.mem_of_getElem? hx) _ hok8)
     have HOK8 := hid hok8; have HJ8 := hid hj8; have HX1 := hid hx
     clear hc hx hok hj hok8 hj8 hb8 htk
     gi_wp2
     refine ⟨trivial, fun h => (by cases h), ?_⟩
     refine (callsIn_wide.2 HC.out).mono ?_
     rintro e w1 ⟨lc, rfl, hln, hb1⟩
     have hok1 := HO2.out _ _ HOK8.out hb1
     have hj1 := HJ.out _ _ _ HJ8.out (.of_below hb1 (fun i _ hi => hi))
     obtain ⟨fn, tmps, assign, body, hy, hR⟩ := HY.out _ (says x) #[valLn lc] w1 hj1 hpx.out ⟨lc, rfl, hln.mono (HOR.out _ HOK8.out).2⟩ (HOR.out _ hok1).2 (m - 1)
     have HOK1 := hid hok1
     clear hok1 hj1 hln hb1
     gi_wp2
     refine ⟨fun h => (by cases h), ?_⟩
     refine hR.mono ?_
     rintro e Y (⟨rfl, hJ', hk'⟩ | ⟨rfl, hJx', _⟩)
     · clear hR hy
       have HJ2 := hid hJ'; have HOK2 := hid (HO.out _ _ HOK1.out hk')
       clear hJ' hk'
       gi_wp2
       go_roundw
       case rel => exact ⟨k + 1, by omega, by go_num, by rw [← hstep.out]; exact HJ2.out, HOK2.out⟩
       case measure => simp [RowKit.intOf]; omega
     · clear hR hy
       have HJ2 := hid hJx'
       clear hJx'
       gi_wp2
       go_ret
       exact .inr ⟨rfl, _, hpx.out, HJ2.out⟩
   · have hkn : k = n := by omega
     have htk : xs.take k = xs := List.take_of_length_le (by rw [HR.out.len]; omega)
     rw [htk] at hj
     have HJ2 := hid hj; have HOK2 := hid hok
     clear hj hok htk
     gi_wp2
     go_ret
     exact .inl ⟨rfl, HJ2.out, HOK2.out⟩

theorem rowsMa (hJ : ∀ s X Y, J s X → Same (fun _ => True) X Y → J s Y)
   (hY : ∀ pre x args X, J pre X → pre ++ [x] <+: ls → RepLn B x args X → B ≤ X.heap.size → ∀ m, YieldAt Fence.wide m Tryz.prog l args X fun e Y =>
     (e = .returned (.bool true) ∧ J (pre ++ [x]) Y ∧ KeepOn D X Y) ∨ (e = .returned (.bool false) ∧ Jx (pre ++ [x]) Y ∧ KeepOn D X Y))
   (hOk : ∀ X Y, Ok X → KeepOn D X Y → Ok Y) (hOk2 : ∀ X Y, Ok X → Below X.heap.size X Y → Ok Y) (hOkr : ∀ X, Ok X → Reads w0 X ∧ B ≤ X.heap.size)
   (a : Option Addr) (n c : Nat) (xs : List MaC) (says : MaC → LnS) (sf : Nat) (cap : Array Value) (eg : ∀ args w, (callFunc sf args).run Tryz.prog w = .ok (.enter sf args) w) (hr : Row w0 4 encMa a n c xs)
   (hs : ∀ x ∈ xs, ∀ X, Ok X → Calls Tryz.prog sf (#[valMa x] ++ cap) X (RetLn (says x) X))
   (pre : List LnS) (hpre : pre ++ xs.map says <+: ls) (X : World) (hX : J pre X) (hOkX : Ok X) (m : Nat) :
   CallsIn Fence.wide m Tryz.prog 75 #[.slice a n c, .func (.func sf) #[] cap, .func (.yield l) #[] #[]] X fun e Y =>
     (e = .returned (.bool true) ∧ J (pre ++ xs.map says) Y ∧ Ok Y) ∨ (e = .returned (.bool false) ∧ ∃ p, p <+: ls ∧ Jx p Y) := by
 refine callsIn_of_wp Tryz.func75 rfl trivial ?_ rfl
 simp only [Tryz.ntmps75, List.size_toArray, List.length_cons, List.length_nil, Nat.reduceAdd, Nat.reduceSub, Array.replicate_succ, Array.replicate_zero, List.push_toArray, List.append_toArray, List.nil_append, List.cons_append]
 have hle := hr.le
 have HR := hid hr; have HS := hid hs; have HP := hid hpre; have HJ := hid hJ; have HY := hid hY; have HO := hid hOk; have HO2 := hid hOk2; have HOR := hid hOkr
 have HX := hid hX; have HOX := hid hOkX
 clear hr hs hpre hJ hY hOk hOk2 hOkr hX hOkX
 gi_wp2
 gi_loopw [11] (fun i wr => ∃ k : Nat, k ≤ n ∧ i = .int .i64 k ∧ J (pre ++ (xs.take k).map says) wr ∧ Ok wr) (fun i _ => n - (RowKit.intOf i).toNat)
 case atStart => exact ⟨0, Nat.zero_le _, rfl, by simpa using HX.out, HOX.out⟩
 case round =>
   obtain ⟨k, hk, rfl, hj, hok⟩ := hrel
   by_cases hlt : k < n
   · obtain ⟨x, b, o, hx, rfl, hc⟩ := (HR.out.reads (HOR.out _ hok).1).at_ hlt
     have h0 := hc 0 _ rfl
     have h1 := hc 1 _ rfl
     have h2 := hc 2 _ rfl
     have h3 := hc 3 _ rfl
     simp only [Nat.add_zero] at h0
     have hkl : k < xs.length := by rw [HR.out.len]; exact hlt
     have htk : xs.take (k + 1) = xs.take k ++ [x] := by
       rw [List.take_add_one, hx]; rfl
     have hstep : Hid ((pre ++ (xs.take k).map says) ++ [says x] = pre ++ (xs.take (k + 1)).map says) := by rw [htk]; exact hid (by simp)
     have hpx : Hid ((pre ++ (xs.take k).map says) ++ [says x] <+: ls) := by
       rw [hstep.out]
       exact hid (List.IsPrefix.trans (by
         refine ⟨(xs.drop (k + 1)).map says, ?_⟩
         rw [List.append_assoc, ← List.map_append, List.take_append_drop]) HP.out)
     have hb8 : Below wr.heap.size wr (wr.alloc (.cells (cellsMa x) 79)) := (Below.refl _ _).alloc (Nat.le_refl _) _
     have hok8 := HO2.out _ _ hok hb8
     have hj8 := HJ.out _ _ _ hj (.of_below hb8 (fun i _ hi => hi))
     have HC := hid (HS.out x (List.mem_of_getElem? hx) _ hok8)
     have HOK8 := hid hok8; have HJ8 := hid hj8; have HX1 := hid hx
     clear hc hx hok hj hok8 hj8 hb8 htk
     gi_wp2
     refine ⟨trivial, fun h => (by cases h), ?_⟩
     refine (callsIn_wide.2 HC.out).mono ?_
     rintro e w1 ⟨lc, rfl, hln, hb1⟩
     have hok1 := HO2.out _ _ HOK8.out hb1
     have hj1 := HJ.out _ _ _ HJ8.out (.of_below hb1 (fun i _ hi => hi))
     obtain ⟨fn, tmps, assign, body, hy, hR⟩ := HY.out _ (says x) #[valLn lc] w1 hj1 hpx.out ⟨lc, rfl, hln.mono (HOR.out _ HOK8.out).2⟩ (HOR.out _ hok1).2 (m - 1)
     have HOK1 := hid hok1
     clear hok1 hj1 hln hb1
     gi_wp2
     refine ⟨fun h => (by cases h), ?_⟩
     refine hR.mono ?_
     rintro e Y (⟨rfl, hJ', hk'⟩ | ⟨rfl, hJx', _⟩)
     · clear hR hy
       have HJ2 := hid hJ'; have HOK2 := hid (HO.out _ _ HOK1.out hk')
       clear hJ' hk'
       gi_wp2
       go_roundw
       case rel => exact ⟨k + 1, by omega, by go_num, by rw [← hstep.out]; exact HJ2.out, HOK2.out⟩
       case measure => simp [RowKit.intOf]; omega
     · clear hR hy
       have HJ2 := hid hJx'
       clear hJx'
       gi_wp2
       go_ret
       exact .inr ⟨rfl, _, hpx.out, HJ2.out⟩
   · have hkn : k = n := by omega
     have htk : xs.take k = xs := List.take_of_length_le (by rw [HR.out.len]; omega)
     rw [htk] at hj
     have HJ2 := hid hj; have HOK2 := hid hok
     clear hj hok htk
     gi_wp2
     go_ret
     exact .inl ⟨rfl, HJ2.out, HOK2.out⟩

theorem rowsWa (hJ : ∀ s X Y, J s X → Same (fun _ => True) X Y → J s Y)
   (hY : ∀ pre x args X, J pre X → pre ++ [x] <+: ls → RepLn B x args X → B ≤ X.heap.size → ∀ m, YieldAt Fence.wide m Tryz.prog l args X fun e Y =>
     (e = .returned (.bool true) ∧ J (pre ++ [x]) Y ∧ KeepOn D X Y) ∨ (e = .returned (.bool false) ∧ Jx (pre ++ [x]) Y ∧ KeepOn D X Y))
   (hOk : ∀ X Y, Ok X → KeepOn D X Y → Ok Y) (hOk2 : ∀ X Y, Ok X → Below X.heap.size X Y → Ok Y) (hOkr : ∀ X, Ok X → Reads w0 X ∧ B ≤ X.heap.size)
   (a : Option Addr) (n c : Nat) (xs : List Wa) (says : Wa → LnS) (sf : Nat) (cap : Array Value) (eg : ∀ args w, (callFunc sf args).run Tryz.prog w = .ok (.enter sf args) w) (hr : Row w0 2 encWa a n c xs)
   (hs : ∀ x ∈ xs, ∀ X, Ok X → Calls Tryz.prog sf (#[valWa x] ++ cap) X (RetLn (says x) X))
   (pre : List LnS) (hpre : pre ++ xs.map says <+: ls) (X : World) (hX : J pre X) (hOkX : Ok X) (m : Nat) :
   CallsIn Fence.wide m Tryz.prog 76 #[.slice a n c, .func (.func sf) #[] cap, .func (.yield l) #[] #[]] X fun e Y =>
     (e = .returned (.bool true) ∧ J (pre ++ xs.map says) Y ∧ Ok Y) ∨ (e = .returned (.bool false) ∧ ∃ p, p <+: ls ∧ Jx p Y) := by
 refine callsIn_of_wp Tryz.func76 rfl trivial ?_ rfl
 simp only [Tryz.ntmps76, List.size_toArray, List.length_cons, List.length_nil, Nat.reduceAdd, Nat.reduceSub, Array.replicate_succ, Array.replicate_zero, List.push_toArray, List.append_toArray, List.nil_append, List.cons_append]
 have hle := hr.le
 have HR := hid hr; have HS := hid hs; have HP := hid hpre; have HJ := hid hJ; have HY := hid hY; have HO := hid hOk; have HO2 := hid hOk2; have HOR := hid hOkr
 have HX := hid hX; have HOX := hid hOkX
 clear hr hs hpre hJ hY hOk hOk2 hOkr hX hOkX
 gi_wp2
 gi_loopw [11] (fun i wr => ∃ k : Nat, k ≤ n ∧ i = .int .i64 k ∧ J (pre ++ (xs.take k).map says) wr ∧ Ok wr) (fun i _ => n - (RowKit.intOf i).toNat)
 case atStart => exact ⟨0, Nat.zero_le _, rfl, by simpa using HX.out, HOX.out⟩
 case round =>
   obtain ⟨k, hk, rfl, hj, hok⟩ := hrel
   by_cases hlt : k < n
   · obtain ⟨x, b, o, hx, rfl, hc⟩ := (HR.out.reads (HOR.out _ hok).1).at_ hlt
     have h0 := hc 0 _ rfl
     have h1 := hc 1 _ rfl
     simp only [Nat.add_zero] at h0
     have hkl : k < xs.length := by rw [HR.out.len]; exact hlt
     have htk : xs.take (k + 1) = xs.take k ++ [x] := by
       rw [List.take_add_one, hx]; rfl
     have hstep : Hid ((pre ++ (xs.take k).map says) ++ [says x] = pre ++ (xs.take (k + 1)).map says) := by rw [htk]; exact hid (by simp)
     have hpx : Hid ((pre ++ (xs.take k).map says) ++ [says x] <+: ls) := by
       rw [hstep.out]
       exact hid (List.IsPrefix.trans (by
         refine ⟨(xs.drop (k + 1)).map says, ?_⟩
         rw [List.append_assoc, ← List.map_append, List.take_append_drop]) HP.out)
     have hb8 : Below wr.heap.size wr (wr.alloc (.cells (cellsWa x) 82)) := (Below.refl _ _).alloc (Nat.le_refl _) _
     have hok8 := HO2.out _ _ hok hb8
     have hj8 := HJ.out _ _ _ hj (.of_below hb8 (fun i _ hi => hi))
     have HC := hid (HS.out x (List.mem_of_getElem? hx) _ hok8)
     have HOK8 := hid hok8; have HJ8 := hid hj8; have HX1 := hid hx
     clear hc hx hok hj hok8 hj8 hb8 htk
     gi_wp2
     refine ⟨trivial, fun h => (by cases h), ?_⟩
     refine (callsIn_wide.2 HC.out).mono ?_
     rintro e w1 ⟨lc, rfl, hln, hb1⟩
     have hok1 := HO2.out _ _ HOK8.out hb1
     have hj1 := HJ.out _ _ _ HJ8.out (.of_below hb1 (fun i _ hi => hi))
     obtain ⟨fn, tmps, assign, body, hy, hR⟩ := HY.out _ (says x) #[valLn lc] w1 hj1 hpx.out ⟨lc, rfl, hln.mono (HOR.out _ HOK8.out).2⟩ (HOR.out _ hok1).2 (m - 1)
     have HOK1 := hid hok1
     clear hok1 hj1 hln hb1
     gi_wp2
     refine ⟨fun h => (by cases h), ?_⟩
     refine hR.mono ?_
     rintro e Y (⟨rfl, hJ', hk'⟩ | ⟨rfl, hJx', _⟩)
     · clear hR hy
       have HJ2 := hid hJ'; have HOK2 := hid (HO.out _ _ HOK1.out hk')
       clear hJ' hk'
       gi_wp2
       go_roundw
       case rel => exact ⟨k + 1, by omega, by go_num, by rw [← hstep.out]; exact HJ2.out, HOK2.out⟩
       case measure => simp [RowKit.intOf]; omega
     · clear hR hy
       have HJ2 := hid hJx'
       clear hJx'
       gi_wp2
       go_ret
       exact .inr ⟨rfl, _, hpx.out, HJ2.out⟩
   · have hkn : k = n := by omega
     have htk : xs.take k = xs := List.take_of_length_le (by rw [HR.out.len]; omega)
     rw [htk] at hj
     have HJ2 := hid hj; have HOK2 := hid hok
     clear hj hok htk
     gi_wp2
     go_ret
     exact .inl ⟨rfl, HJ2.out, HOK2.out⟩
end
end Yd


namespace Yd
open Go Go.RowKit Go.Proofs

theorem set_map {X : World} {mp : Nat} {es : Array MapEntry} {c : Nat} {o' : Obj} (h : X.heap.size = mp) : (setObj mp o').run Tryz.prog (X.alloc (.map es c)) = .ok () (X.alloc o') := by
 subst h
 have h1 : (X.alloc (.map es c)).putObj X.heap.size o' = X.alloc o' := by
   unfold World.putObj World.alloc
   congr 1
   apply Array.ext'
   simp
 have hh : (X.alloc (.map es c)).heap[X.heap.size]? = some (.map es c) := heapN rfl
 have h2 : (setObj X.heap.size o').run Tryz.prog (X.alloc (.map es c)) = .ok () ((X.alloc (.map es c)).putObj X.heap.size o') := by
   simp only [setObj, Sem.run, World.putObj, hh]
 rw [h2, h1]
theorem Bx.ofObj {W : World} {b : Nat} {cs : Array Value} {T : TypeId} (h : W.heap[b]? = some (.cells cs T (0, 0))) : Bx W b cs := by
 refine ⟨fun i => ?_, fun i => ?_, (Array.getElem?_eq_some_iff.1 h).1⟩
 · unfold World.cell?; simp [h]
 · unfold World.frozen?; simp [h]
structure LinesAt (h : HC) (b : Nat) (W : World) : Prop where
 o0 : W.heap[b]? = some (.cells (cellsH h) 90 (0, 0))
 o1 : W.heap[b + 1]? = some (.map (mapE h) 4)
 o2 : W.heap[b + 2]? = some (.cells #[.map (some (b + 1))] 131 (0, 0))
 o3 : W.heap[b + 3]? = some (.cells #[.func (.func 67) #[] #[.pointer (some ⟨b, 0, none⟩), .pointer (some ⟨b + 2, 0, none⟩)]] 134 (0, 0))
 o4 : W.heap[b + 4]? = some (.cells #[.func (.func 69) #[] #[.pointer (some ⟨b, 0, none⟩)]] 135 (0, 0))
 o5 : W.heap[b + 5]? = some (.cells #[.func (.func 70) #[] #[.pointer (some ⟨b, 0, none⟩)]] 136 (0, 0))
 o6 : W.heap[b + 6]? = some (.cells #[.func (.func 71) #[] #[.pointer (some ⟨b, 0, none⟩)]] 137 (0, 0))
theorem LinesAt.keep {h : HC} {b : Nat} {X Y : World} (s : LinesAt h b X) (hb : ∀ i, b ≤ i → i < b + 7 → Y.heap[i]? = X.heap[i]?) : LinesAt h b Y :=
 ⟨(hb _ (by omega) (by omega)).trans s.o0, (hb _ (by omega) (by omega)).trans s.o1, (hb _ (by omega) (by omega)).trans s.o2, (hb _ (by omega) (by omega)).trans s.o3, (hb _ (by omega) (by omega)).trans s.o4, (hb _ (by omega) (by omega)).trans s.o5, (hb _ (by omega) (by omega)).trans s.o6⟩
theorem LinesAt.lt {h : HC} {b : Nat} {X : World} (s : LinesAt h b X) : b + 7 ≤ X.heap.size := by have := (Array.getElem?_eq_some_iff.1 s.o6).1; omega
theorem put_1 (h : HC) (X : World) (mp : Nat) (hm : X.heap.size = mp) : (Instr.mapUpdate 131 (.map (some mp)) (.int .i64 1) (.func (.func 63) #[valH h] #[])).run Tryz.prog (X.alloc (.map #[] 0)) = .ok () (X.alloc (.map #[⟨.int .i64 1, .func (.func 63) #[valH h] #[], 0⟩] 1)) := by
 have hg := get_map (heapN (o := .map #[] 0) hm)
 have hs := fun o' => set_map (es := #[]) (c := 0) (o' := o') hm
 simp [Instr.mapUpdate, hg, hs, chk_int, Instr.findKey, Instr.findNow, Result.andThen]
theorem put_2 (h : HC) (X : World) (mp : Nat) (hm : X.heap.size = mp) : (Instr.mapUpdate 131 (.map (some mp)) (.int .i64 2) (.func (.func 64) #[valH h] #[])).run Tryz.prog (X.alloc (.map #[⟨.int .i64 1, .func (.func 63) #[valH h] #[], 0⟩] 1)) = .ok () (X.alloc (.map #[⟨.int .i64 1, .func (.func 63) #[valH h] #[], 0⟩, ⟨.int .i64 2, .func (.func 64) #[valH h] #[], 1⟩] 2)) := by
 have hg := get_map (heapN (o := .map #[⟨.int .i64 1, .func (.func 63) #[valH h] #[], 0⟩] 1) hm)
 have hs := fun o' => set_map (es := #[⟨.int .i64 1, .func (.func 63) #[valH h] #[], 0⟩]) (c := 1) (o' := o') hm
 simp [Instr.mapUpdate, hg, hs, chk_int, Instr.findKey, Instr.findNow, Instr.sameNow, Result.andThen]
theorem put_3 (h : HC) (X : World) (mp : Nat) (hm : X.heap.size = mp) : (Instr.mapUpdate 131 (.map (some mp)) (.int .i64 3) (.func (.func 65) #[valH h] #[])).run Tryz.prog (X.alloc (.map #[⟨.int .i64 1, .func (.func 63) #[valH h] #[], 0⟩, ⟨.int .i64 2, .func (.func 64) #[valH h] #[], 1⟩] 2)) = .ok () (X.alloc (.map #[⟨.int .i64 1, .func (.func 63) #[valH h] #[], 0⟩, ⟨.int .i64 2, .func (.func 64) #[valH h] #[], 1⟩, ⟨.int .i64 3, .func (.func 65) #[valH h] #[], 2⟩] 3)) := by
 have hg := get_map (heapN (o := .map #[⟨.int .i64 1, .func (.func 63) #[valH h] #[], 0⟩, ⟨.int .i64 2, .func (.func 64) #[valH h] #[], 1⟩] 2) hm)
 have hs := fun o' => set_map (es := #[⟨.int .i64 1, .func (.func 63) #[valH h] #[], 0⟩, ⟨.int .i64 2, .func (.func 64) #[valH h] #[], 1⟩]) (c := 2) (o' := o') hm
 simp [Instr.mapUpdate, hg, hs, chk_int, Instr.findKey, Instr.findNow, Instr.sameNow, Result.andThen]
theorem put_4 (h : HC) (X : World) (mp : Nat) (hm : X.heap.size = mp) : (Instr.mapUpdate 131 (.map (some mp)) (.int .i64 4) (.func (.func 66) #[valH h] #[])).run Tryz.prog (X.alloc (.map #[⟨.int .i64 1, .func (.func 63) #[valH h] #[], 0⟩, ⟨.int .i64 2, .func (.func 64) #[valH h] #[], 1⟩, ⟨.int .i64 3, .func (.func 65) #[valH h] #[], 2⟩] 3)) = .ok () (X.alloc (.map #[⟨.int .i64 1, .func (.func 63) #[valH h] #[], 0⟩, ⟨.int .i64 2, .func (.func 64) #[valH h] #[], 1⟩, ⟨.int .i64 3, .func (.func 65) #[valH h] #[], 2⟩, ⟨.int .i64 4, .func (.func 66) #[valH h] #[], 3⟩] 4)) := by
 have hg := get_map (heapN (o := .map #[⟨.int .i64 1, .func (.func 63) #[valH h] #[], 0⟩, ⟨.int .i64 2, .func (.func 64) #[valH h] #[], 1⟩, ⟨.int .i64 3, .func (.func 65) #[valH h] #[], 2⟩] 3) hm)
 have hs := fun o' => set_map (es := #[⟨.int .i64 1, .func (.func 63) #[valH h] #[], 0⟩, ⟨.int .i64 2, .func (.func 64) #[valH h] #[], 1⟩, ⟨.int .i64 3, .func (.func 65) #[valH h] #[], 2⟩]) (c := 3) (o' := o') hm
 simp [Instr.mapUpdate, hg, hs, chk_int, Instr.findKey, Instr.findNow, Instr.sameNow, Result.andThen]

theorem lines_fn (h : HC) (w : World) : Calls Tryz.prog 35 #[valH h] w fun e W =>
   e = .returned (.func (.func 72) #[] #[.pointer (some ⟨w.heap.size, 0, none⟩), .pointer (some ⟨w.heap.size + 3, 0, none⟩), .pointer (some ⟨w.heap.size + 4, 0, none⟩), .pointer (some ⟨w.heap.size + 5, 0, none⟩), .pointer (some ⟨w.heap.size + 6, 0, none⟩)]) ∧
   W.heap.size = w.heap.size + 7 ∧ Below w.heap.size w W ∧ LinesAt h w.heap.size W := by
 have hmm := @run_makeMap Tryz.prog
 have h1 := put_1 h (w.alloc (.cells (cellsH h) 90)) (w.heap.size + 1) (by simp)
 have h2 := put_2 h (w.alloc (.cells (cellsH h) 90)) (w.heap.size + 1) (by simp)
 have h3 := put_3 h (w.alloc (.cells (cellsH h) 90)) (w.heap.size + 1) (by simp)
 have h4 := put_4 h (w.alloc (.cells (cellsH h) 90)) (w.heap.size + 1) (by simp)
 go_enter Tryz.func35, Tryz.ntmps35
 go_wp2_with fail
 go_ret
 refine ⟨rfl, by simp, belowA (belowA (belowA (belowA (belowA (belowA (belowA (Below.refl _ _) _) _) _) _) _) _) _, ?_⟩
 exact ⟨heapA _ (heapA _ (heapA _ (heapA _ (heapA _ (heapA _ (heapN rfl)))))), heapA _ (heapA _ (heapA _ (heapA _ (heapA _ (heapN (by simp)))))), heapA _ (heapA _ (heapA _ (heapA _ (heapN (by simp))))),
   heapA _ (heapA _ (heapA _ (heapN (by simp)))), heapA _ (heapA _ (heapN (by simp))), heapA _ (heapN (by simp)), heapN (by simp)⟩

def linesS (nl : Nat → List Bs) (es : List EvC) (ds : List OrC) (ms : List MaC) (qs : List Wa) (scan : EvC → List Sn) (dn : OrC → List Int) (mn : MaC → List Int) : List LnS :=
 es.map (fun e => eventS (nl 0) (nl 1) (nl 2) (nl 3) e (scan e)) ++ ds.map (fun x => orderS (nl 2) (nl 0) x (dn x)) ++ ms.map (fun x => matchS (nl 3) (nl 2) (nl 0) x (mn x)) ++ qs.map (wantS (nl 1))
theorem call_l1 : ∀ args w, (callFunc 67 args).run Tryz.prog w = .ok (.enter 67 args) w := enters_of Tryz.func67 (by kernel_rfl) rfl
theorem call_l2 : ∀ args w, (callFunc 69 args).run Tryz.prog w = .ok (.enter 69 args) w := enters_of Tryz.func69 (by kernel_rfl) rfl
theorem call_l3 : ∀ args w, (callFunc 70 args).run Tryz.prog w = .ok (.enter 70 args) w := enters_of Tryz.func70 (by kernel_rfl) rfl
theorem call_l4 : ∀ args w, (callFunc 71 args).run Tryz.prog w = .ok (.enter 71 args) w := enters_of Tryz.func71 (by kernel_rfl) rfl
theorem call_l5 : ∀ args w, (callFunc 72 args).run Tryz.prog w = .ok (.enter 72 args) w := enters_of Tryz.func72 (by kernel_rfl) rfl
attribute [local go_sem] Oper.semAt_some
def OkLn (h : HC) (b : Nat) (w0 W X : World) : Prop := LinesAt h b X ∧ Reads w0 X ∧ W.heap.size ≤ X.heap.size
theorem lines_iter (h : HC) (nl : Nat → List Bs) (es : List EvC) (ds : List OrC) (ms : List MaC) (qs : List Wa) (scan : EvC → List Sn) (dn : OrC → List Int) (mn : MaC → List Int) (b : Nat) (D : Nat → Prop) (w0 W : World)
   (hn : ∀ i, i < 4 → Row w0 1 encStr (h.nm i).a (h.nm i).n (h.nm i).c (nl i)) (hd : Deep w0 h es ds ms qs scan dn mn) (hsh : shapedB h nl es ds ms qs scan dn mn = true) (hL : LinesAt h b W) (hR : Reads w0 W) (hw : w0.heap.size ≤ W.heap.size)
   (hDw : ∀ i, i < w0.heap.size → D i) (hDb : ∀ i, b ≤ i → i < b + 7 → D i) :
   Iter Tryz.prog 72 #[.pointer (some ⟨b, 0, none⟩), .pointer (some ⟨b + 3, 0, none⟩), .pointer (some ⟨b + 4, 0, none⟩), .pointer (some ⟨b + 5, 0, none⟩), .pointer (some ⟨b + 6, 0, none⟩)] (RepLn W.heap.size) 0 D (linesS nl es ds ms qs scan dn mn) W := by
 intro n l J Jx hJ hJx hY h0
 have hJ' : ∀ s X Y, J s X → Same (fun _ => True) X Y → J s Y := fun s X Y hj hs => hJ s X Y hj (hs.mono (fun _ _ _ => trivial))
 have hOk : ∀ X Y, OkLn h b w0 W X → KeepOn D X Y → OkLn h b w0 W Y := fun X Y hx k => ⟨hx.1.keep (fun i h1 h2 => k.2 i (hDb i h1 h2) (by have := hx.1.lt; omega)), hx.2.1.keep k hDw (Nat.le_trans hw hx.2.2), Nat.le_trans hx.2.2 k.1⟩
 have hOk2 : ∀ X Y, OkLn h b w0 W X → Below X.heap.size X Y → OkLn h b w0 W Y := fun X Y hx k => ⟨hx.1.keep (fun i h1 h2 => k.block i (by have := hx.1.lt; omega)), fun a v hc => (k.cell (cell_lt (hx.2.1 a v hc))).trans (hx.2.1 a v hc), Nat.le_trans hx.2.2 k.size⟩
 have hOkr : ∀ X, OkLn h b w0 W X → Reads w0 X ∧ W.heap.size ≤ X.heap.size := fun X hx => hx.2
 have hY' : ∀ pre x args X, J pre X → pre ++ [x] <+: (linesS nl es ds ms qs scan dn mn) → RepLn W.heap.size x args X → W.heap.size ≤ X.heap.size → ∀ m, YieldAt Fence.wide m Tryz.prog l args X fun e Y =>
     (e = .returned (.bool true) ∧ J (pre ++ [x]) Y ∧ KeepOn D X Y) ∨ (e = .returned (.bool false) ∧ Jx (pre ++ [x]) Y ∧ KeepOn D X Y) := fun pre x args X h1 h2 h3 h4 => hY pre x args X h1 h2 h3 h4
 simp only [shapedB, namesB, Bool.and_eq_true, List.all_eq_true] at hsh
 obtain ⟨⟨⟨⟨_, hse⟩, hsd⟩, hsm⟩, hsw⟩ := hsh
 have hr0 : ∀ X, OkLn h b w0 W X → Row X 1 encStr h.t.a h.t.n h.t.c (nl 0) := fun X hx => (hn 0 (by decide)).reads hx.2.1
 have hr1 : ∀ X, OkLn h b w0 W X → Row X 1 encStr h.s.a h.s.n h.s.c (nl 1) := fun X hx => (hn 1 (by decide)).reads hx.2.1
 have hr2 : ∀ X, OkLn h b w0 W X → Row X 1 encStr h.o.a h.o.n h.o.c (nl 2) := fun X hx => (hn 2 (by decide)).reads hx.2.1
 have hr3 : ∀ X, OkLn h b w0 W X → Row X 1 encStr h.p.a h.p.n h.p.c (nl 3) := fun X hx => (hn 3 (by decide)).reads hx.2.1
 have hbx : ∀ X, OkLn h b w0 W X → Bx X b (cellsH h) := fun X hx => Bx.ofObj hx.1.o0
 have HE := hid (fun pre hp X hX hx m => rowsEv (J := J) (Jx := Jx) (D := D) (Ok := OkLn h b w0 W) hJ' hY' hOk hOk2 hOkr h.e.a h.e.n h.e.c es (fun e => eventS (nl 0) (nl 1) (nl 2) (nl 3) e (scan e)) 67 #[.pointer (some ⟨b, 0, none⟩), .pointer (some ⟨b + 2, 0, none⟩)] call_l1 hd.1
   (fun e he X hx => lines1 h (nl 0) (nl 1) (nl 2) (nl 3) e (scan e) b (b + 2) (b + 1) X (hbx X hx) (Bx.ofObj hx.1.o2) hx.1.o1 (hr0 X hx) (hr1 X hx) (hr2 X hx) (hr3 X hx) ((hd.2.2.2.2.1 e he).reads hx.2.1) (hse e he)) pre hp X hX hx m)
 have HD := hid (fun pre hp X hX hx m => rowsOr (J := J) (Jx := Jx) (D := D) (Ok := OkLn h b w0 W) hJ' hY' hOk hOk2 hOkr h.d.a h.d.n h.d.c ds (fun x => orderS (nl 2) (nl 0) x (dn x)) 69 #[.pointer (some ⟨b, 0, none⟩)] call_l2 hd.2.1
   (fun x hx' X hx => by
     have h1 := hsd x hx'
     simp only [ordB, Bool.and_eq_true] at h1
     exact lines2 h (nl 2) (nl 0) x (dn x) b X (hbx X hx) (hr2 X hx) (hr0 X hx) ((hd.2.2.2.2.2.1 x hx').reads hx.2.1) h1.2 h1.1) pre hp X hX hx m)
 have HM := hid (fun pre hp X hX hx m => rowsMa (J := J) (Jx := Jx) (D := D) (Ok := OkLn h b w0 W) hJ' hY' hOk hOk2 hOkr h.m.a h.m.n h.m.c ms (fun x => matchS (nl 3) (nl 2) (nl 0) x (mn x)) 70 #[.pointer (some ⟨b, 0, none⟩)] call_l3 hd.2.2.1
   (fun x hx' X hx => by
     have h1 := hsm x hx'
     simp only [matB, Bool.and_eq_true] at h1
     exact lines3 h (nl 3) (nl 2) (nl 0) x (mn x) b X (hbx X hx) (hr3 X hx) (hr2 X hx) (hr0 X hx) ((hd.2.2.2.2.2.2 x hx').reads hx.2.1) h1.2 h1.1.1 h1.1.2) pre hp X hX hx m)
 have HV := hid (fun pre hp X hX hx m => rowsWa (J := J) (Jx := Jx) (D := D) (Ok := OkLn h b w0 W) hJ' hY' hOk hOk2 hOkr h.w.a h.w.n h.w.c qs (wantS (nl 1)) 71 #[.pointer (some ⟨b, 0, none⟩)] call_l4 hd.2.2.2.1
   (fun x hx' X hx => by
     have h1 := hsw x hx'
     simp only [wantB, Bool.and_eq_true] at h1
     exact lines4 h (nl 1) x b X (hbx X hx) (hr1 X hx) h1.1.1) pre hp X hX hx m)
 have HOK : Hid (OkLn h b w0 W W) := hid ⟨hL, hR, Nat.le_refl _⟩
 have HJ0 := hid h0
 clear hJ hJx hY h0 hJ' hOk hOk2 hOkr hY' hse hsd hsm hsw hr0 hr1 hr2 hr3 hbx hn hd hL hR hw hDw hDb
 refine callsIn_of_wp Tryz.func72 rfl trivial ?_ rfl
 simp only [Tryz.ntmps72, List.size_toArray, List.length_cons, List.length_nil, Nat.reduceAdd, Nat.reduceSub, Array.replicate_succ, Array.replicate_zero, List.push_toArray, List.append_toArray, List.nil_append, List.cons_append]
 have hcb := (Bx.ofObj HOK.out.1.o0).1; have hc3 := (Bx.ofObj HOK.out.1.o3).1
 have hp1 : [] ++ es.map (fun e => eventS (nl 0) (nl 1) (nl 2) (nl 3) e (scan e)) <+: linesS nl es ds ms qs scan dn mn := ⟨ds.map (fun x => orderS (nl 2) (nl 0) x (dn x)) ++ (ms.map (fun x => matchS (nl 3) (nl 2) (nl 0) x (mn x)) ++ qs.map (wantS (nl 1))), by simp only [linesS, List.nil_append, List.append_assoc]⟩
 have hp2 : ([] ++ es.map (fun e => eventS (nl 0) (nl 1) (nl 2) (nl 3) e (scan e))) ++ ds.map (fun x => orderS (nl 2) (nl 0) x (dn x)) <+: linesS nl es ds ms qs scan dn mn := ⟨ms.map (fun x => matchS (nl 3) (nl 2) (nl 0) x (mn x)) ++ qs.map (wantS (nl 1)), by simp only [linesS, List.nil_append, List.append_assoc]⟩
 have hp3 : (([] ++ es.map (fun e => eventS (nl 0) (nl 1) (nl 2) (nl 3) e (scan e))) ++ ds.map (fun x => orderS (nl 2) (nl 0) x (dn x))) ++ ms.map (fun x => matchS (nl 3) (nl 2) (nl 0) x (mn x)) <+: linesS nl es ds ms qs scan dn mn := ⟨qs.map (wantS (nl 1)), by simp only [linesS, List.nil_append, List.append_assoc]⟩
 have hp4e : ((([] ++ es.map (fun e => eventS (nl 0) (nl 1) (nl 2) (nl 3) e (scan e))) ++ ds.map (fun x => orderS (nl 2) (nl 0) x (dn x))) ++ ms.map (fun x => matchS (nl 3) (nl 2) (nl 0) x (mn x))) ++ qs.map (wantS (nl 1)) = linesS nl es ds ms qs scan dn mn := by simp only [linesS, List.nil_append, List.append_assoc]
 have HP1 := hid hp1; have HP2 := hid hp2; have HP3 := hid hp3; have HP4 := hid hp4e
 clear hp1 hp2 hp3 hp4e
 gi_wp2_with fail
 refine ⟨trivial, fun h => (by cases h), ?_⟩
 refine (HE.out [] HP1.out W HJ0.out HOK.out (n - 1)).mono ?_
 clear hcb hc3
 rintro e Y1 (⟨rfl, hj1, hok1⟩ | ⟨rfl, p, hp, hjx⟩)
 · have HJ1 := hid hj1; have HOK1 := hid hok1; clear hj1 hok1
   have hcb := (Bx.ofObj HOK1.out.1.o0).1; have hc4 := (Bx.ofObj HOK1.out.1.o4).1
   gi_wp2_with fail
   refine ⟨trivial, fun h => (by cases h), ?_⟩
   clear hcb hc4
   refine (HD.out _ HP2.out Y1 HJ1.out HOK1.out (n - 1)).mono ?_
   rintro e Y2 (⟨rfl, hj2, hok2⟩ | ⟨rfl, p, hp, hjx⟩)
   · have HJ2 := hid hj2; have HOK2 := hid hok2; clear hj2 hok2
     have hcb := (Bx.ofObj HOK2.out.1.o0).1; have hc5 := (Bx.ofObj HOK2.out.1.o5).1
     gi_wp2_with fail
     refine ⟨trivial, fun h => (by cases h), ?_⟩
     clear hcb hc5
     refine (HM.out _ HP3.out Y2 HJ2.out HOK2.out (n - 1)).mono ?_
     rintro e Y3 (⟨rfl, hj3, hok3⟩ | ⟨rfl, p, hp, hjx⟩)
     · have HJ3 := hid hj3; have HOK3 := hid hok3; clear hj3 hok3
       have hcb := (Bx.ofObj HOK3.out.1.o0).1; have hc6 := (Bx.ofObj HOK3.out.1.o6).1
       gi_wp2_with fail
       refine ⟨trivial, fun h => (by cases h), ?_⟩
       clear hcb hc6
       refine (HV.out _ (HP4.out ▸ List.prefix_rfl) Y3 HJ3.out HOK3.out (n - 1)).mono ?_
       rintro e Y4 (⟨rfl, hj4, hok4⟩ | ⟨rfl, p, hp, hjx⟩)
       · have HJ4 := hid hj4; have HOK4 := hid hok4; clear hj4 hok4
         gi_wp2_with fail
         go_end0
         exact ⟨_, rfl, .inl (HP4.out ▸ HJ4.out)⟩
       · have HJX := hid hjx; clear hjx
         gi_wp2_with fail
         go_end0
         exact ⟨_, rfl, .inr ⟨p, hp, HJX.out⟩⟩
     · have HJX := hid hjx; clear hjx
       gi_wp2_with fail
       refine ⟨trivial, ?_⟩
       gi_wp2_with fail
       go_end0
       exact ⟨_, rfl, .inr ⟨p, hp, HJX.out⟩⟩
   · have HJX := hid hjx; clear hjx
     gi_wp2_with fail
     refine ⟨trivial, ?_⟩
     gi_wp2_with fail
     refine ⟨trivial, ?_⟩
     gi_wp2_with fail
     go_end0
     exact ⟨_, rfl, .inr ⟨p, hp, HJX.out⟩⟩
 · have HJX := hid hjx; clear hjx
   gi_wp2_with fail
   refine ⟨trivial, ?_⟩
   gi_wp2_with fail
   refine ⟨trivial, ?_⟩
   gi_wp2_with fail
   refine ⟨trivial, ?_⟩
   gi_wp2_with fail
   go_end0
   exact ⟨_, rfl, .inr ⟨p, hp, HJX.out⟩⟩
end Yd
