import Derived.Test.YthdpangjphphjaaGreatDoorLex
import Derived.Test.YthdpangjphphjaaGreatDoorShelf
import Derived.LoopIn
import Derived.LoopNIn
import Derived.TacticsInMore
import Derived.OwnWalkIn
import Derived.Shelf.Abstract
import Derived.Shelf.RegionOpen
import Derived.Lib.OthersKept
import Derived.Lib.RuneCountTail
import Derived.Test.YthdpangjphphjaaGreatDoorProg
import Derived.WalkMore
import Derived.ScopeJumps
import Derived.BigQuiet
import Derived.Test.YthdpangjphphjaaGreatDoorRf
import Derived.Maps.Own
import Derived.Maps.Views
import Derived.Maps.Keyed
import Derived.StringKeys
set_option maxRecDepth 200000
set_option maxHeartbeats 8000000
namespace Yd
open Go Go.RowKit Go.Proofs

def okB (s : ByteArray) (pos : Nat) : Bool := !(((Utf8.decode s pos).1 : Int) == 65533) || decide (1 < ((Utf8.decode s pos).2 : Int))
theorem okB_1 {s : ByteArray} {pos : Nat} (h : (((Utf8.decode s pos).1 : Int) == 65533) = false) : okB s pos = true := by unfold okB; rw [h]; rfl
theorem okB_2 {s : ByteArray} {pos : Nat} (h : (((Utf8.decode s pos).1 : Int) == 65533) = true) : okB s pos = decide (1 < ((Utf8.decode s pos).2 : Int)) := by unfold okB; rw [h]; rfl

theorem decodeGo_rest (s : ByteArray) (pos : Nat) (h : pos < s.size) : Lib.decodeGo (s.extract pos s.size) = Utf8.decode s pos := by
 unfold Lib.decodeGo
 rw [if_neg (by rw [Lib.tail_size]; omega), Lib.tail_decode, Nat.add_zero]

theorem rune11 (s : ByteArray) (pos : Nat) (hp : pos < s.size) (bs b3 b4 : Nat) (w : World) (hs : Bx w bs #[.string s]) (h3 : Bx w b3 #[.int .i64 pos]) (h4 : Bx w b4 #[.int .i32 (Utf8.decode s pos).1]) (hT : Lib.Utf8Tabs 2 3 w) :
   Calls Tryz.prog 141 #[.pointer (some ⟨bs, 0, none⟩), .pointer (some ⟨b3, 0, none⟩), .pointer (some ⟨b4, 0, none⟩)] w (Ret2 (.int .i32 (Utf8.decode s pos).1) (.bool (okB s pos)) w) := by
 have hc := hs.1; have hc3 := h3.1; have hc4 := h4.1
 have HD := hid (Tryz.utf8_DecodeRuneInString (s.extract pos s.size) w hT)
 have HE := hid (decodeGo_rest s pos hp)
 have H4 := hid h4
 have hlt := hs.2.2; have hlt3 := h3.2.2; have hlt4 := h4.2.2
 clear hs h3 h4
 obtain ⟨r, hr⟩ : ∃ r : Int, r = ((Utf8.decode s pos).1 : Int) := ⟨_, rfl⟩
 obtain ⟨d, hd⟩ : ∃ d : Int, d = ((Utf8.decode s pos).2 : Int) := ⟨_, rfl⟩
 have hok1 : (r == 65533) = false → okB s pos = true := fun h => okB_1 (by rw [← hr]; exact h)
 have hok2 : (r == 65533) = true → okB s pos = decide (1 < d) := fun h => by rw [hd]; exact okB_2 (by rw [← hr]; exact h)
 rw [← hr]
 go_enter Tryz.func141, Tryz.ntmps141
 go_wp2_with fail
 refine HD.out.mono ?_
 rintro e w1 ⟨rfl, hb1⟩
 rw [HE.out, ← hr, ← hd]
 have hc4' := (H4.out.keep hb1).1; rw [← hr] at hc4'
 have HB := hid hb1; clear hb1
 have HR := hid hr; have HDD := hid hd; clear hr hd
 by_cases h5 : ¬ r = 65533
 · have hq : (r == 65533) = false := beq_eq_false_iff_ne.2 h5
   have HO := hid (hok1 hq); clear hok1 hok2
   go_wp2_with fail
   refine bodyPost_ret (v := .tuple #[.int .i32 r, .bool (okB s pos)]) (by simp [results, Tryz.results141, go_sem, HO.out]) rfl ⟨rfl, HB.out⟩
 · have h5 := Decidable.not_not.1 h5
   subst h5
   have HO := hid (hok2 rfl); clear hok1 hok2
   go_wp2_with fail
   refine bodyPost_ret (v := .tuple #[.int .i32 65533, .bool (okB s pos)]) (by simp [results, Tryz.results141, go_sem, HO.out]) rfl ⟨rfl, HB.out⟩
def posFrom (s : ByteArray) : Nat → Nat → List Nat
 | 0, _ => []
 | n + 1, pos => if pos < s.size then pos :: posFrom s n (pos + (Utf8.decode s pos).2) else []

def RepRune (s : ByteArray) (bs B : Nat) (pos : Nat) (args : Array Value) (X : World) : Prop :=
 pos < s.size ∧ ∃ b3 b4, bs < b3 ∧ B < b3 ∧ b3 < b4 ∧ args = #[.int .i64 pos, .func (.func 141) #[] #[.pointer (some ⟨bs, 0, none⟩), .pointer (some ⟨b3, 0, none⟩), .pointer (some ⟨b4, 0, none⟩)]] ∧
   Bx X bs #[.string s] ∧ Bx X b3 #[.int .i64 pos] ∧ Bx X b4 #[.int .i32 (Utf8.decode s pos).1]

theorem width_pos (s : ByteArray) (pos : Nat) (h : pos < s.size) : 1 ≤ (Utf8.decode s pos).2 := by
 by_cases ha : (s[pos]'h).toNat < 128
 · rw [decode_ascii s pos h ha]
   exact Nat.le_refl _
 · exact (decode_high s pos h (by omega)).2

theorem iter_below (W : World) (s : ByteArray) : Below W.heap.size W (W.iter s 0) := (Below.refl _ _).alloc (Nat.le_refl _) _

theorem call303 : ∀ args w, (callFunc 140 args).run Tryz.prog w = .ok (.enter 140 args) w := enters_of Tryz.func140 (by kernel_rfl) rfl

attribute [local go_sem] Oper.semAt_some

theorem runes_iter (s : ByteArray) (bs : Nat) (D : Nat → Prop) (W : World) (hs : Bx W bs #[.string s]) (hDb : D bs) (hDo : D W.heap.size) :
   Iter Tryz.prog 140 #[.pointer (some ⟨bs, 0, none⟩)] (RepRune s bs W.heap.size) 1 D (posFrom s s.size 0) W := by
 intro n l J Jx hJ hJx hY h0
 refine callsIn_of_wp Tryz.func140 rfl trivial ?_ rfl
 simp only [Tryz.ntmps140, List.size_toArray, List.length_cons, List.length_nil, Nat.reduceAdd, Nat.reduceSub, Array.replicate_succ, Array.replicate_zero, List.push_toArray, List.append_toArray, List.nil_append, List.cons_append]
 have hc := hs.1
 gi_wp2
 gi_loopw [] (fun wr => ∃ (pos fuel : Nat) (pre : List Nat), pre ++ posFrom s fuel pos = posFrom s s.size 0 ∧ wr.heap[W.heap.size]? = some (.stringIter s pos) ∧ J pre wr ∧ Bx wr bs #[.string s] ∧ s.size ≤ pos + fuel) (fun wr => s.size - wr.iterPos W.heap.size)
 case atStart =>
   refine ⟨0, s.size, [], rfl, World.iter_heap W s 0, ?_, hs.keep (iter_below W s), by omega⟩
   exact hJ _ _ _ h0 (.of_below (iter_below W s) (fun i _ hi => hi))
 case round =>
   obtain ⟨pos, fuel, pre, hpre, hit, hj, hsr, hfu⟩ := hrel
   have hlt : W.heap.size < wr.heap.size := (Array.getElem?_eq_some_iff.1 hit).1
   by_cases hp : pos < s.size
   · have hnx : ∀ ty, (Instr.next (.pointer (some ⟨W.heap.size, 0, none⟩)) true ty).run Tryz.prog wr = _ := fun ty => Lib.run_next_any_at wr W.heap.size s pos ty hit hp
     have hwd := width_pos s pos hp
     obtain ⟨f, rfl⟩ : ∃ f, fuel = f + 1 := ⟨fuel - 1, by omega⟩
     have hcons : posFrom s (f + 1) pos = pos :: posFrom s f (pos + (Utf8.decode s pos).2) := by simp [posFrom, hp]
     rw [hcons] at hpre
     have hit2 := Lib.iterAt_heap wr W.heap.size s pos (pos + (Utf8.decode s pos).2) hit
     obtain ⟨X, hX⟩ : ∃ X, X = ((wr.iterAt W.heap.size s (pos + (Utf8.decode s pos).2)).alloc (.cells #[.int .i64 pos] 3)).alloc (.cells #[.int .i32 (Utf8.decode s pos).1] 21) := ⟨_, rfl⟩
     have hbX : Below wr.heap.size (wr.iterAt W.heap.size s (pos + (Utf8.decode s pos).2)) X := by
       rw [hX]; exact ((Below.refl _ _).alloc (by rw [Lib.iterAt_size]; exact Nat.le_refl _) _).alloc (by simp [Lib.iterAt_size]) _
     have hsX : X.heap.size = wr.heap.size + 2 := by rw [hX]; simp [Lib.iterAt_size]
     have hsame : ∀ i, i < wr.heap.size → i ≠ W.heap.size → X.heap[i]? = wr.heap[i]? := fun i hi hne => (hbX.block i hi).trans (Lib.iterAt_other wr _ i s _ hne)
     have hjX : J pre X := hJ _ _ _ hj ⟨hbX.os, hbX.tape, hbX.output, by omega, fun i hor hi => hsame i hi (by omega)⟩
     have hneb : bs ≠ W.heap.size := by have := hs.2.2; omega
     have hsX1 : Bx X bs #[.string s] := ⟨fun i => (World.cell?_of_block (a := ⟨bs, i, none⟩) (hsame bs hsr.2.2 hneb)).trans (hsr.1 i), fun i => (World.frozen?_of_block (a := ⟨bs, i, none⟩) (hsame bs hsr.2.2 hneb)).trans (hsr.2.1 i), by rw [hsX]; have := hsr.2.2; omega⟩
     have hX3 : Bx X wr.heap.size #[.int .i64 pos] := by
       have := (Bx.new (wr.iterAt W.heap.size s (pos + (Utf8.decode s pos).2)) #[.int .i64 pos] 3).alloc (.cells #[.int .i32 (Utf8.decode s pos).1] 21)
       rw [Lib.iterAt_size, ← hX] at this; exact this
     have hX4 : Bx X (wr.heap.size + 1) #[.int .i32 (Utf8.decode s pos).1] := by
       have := Bx.new ((wr.iterAt W.heap.size s (pos + (Utf8.decode s pos).2)).alloc (.cells #[.int .i64 pos] 3)) #[.int .i32 (Utf8.decode s pos).1] 21
       rw [World.size_alloc, Lib.iterAt_size, ← hX] at this; exact this
     have hitX : X.heap[W.heap.size]? = some (.stringIter s (pos + (Utf8.decode s pos).2)) := (hbX.block _ hlt).trans hit2
     obtain ⟨fn, tmps, assign, body, hy, hR⟩ := hY pre pos #[.int .i64 pos, .func (.func 141) #[] #[.pointer (some ⟨bs, 0, none⟩), .pointer (some ⟨wr.heap.size, 0, none⟩), .pointer (some ⟨wr.heap.size + 1, 0, none⟩)]] X hjX
       ⟨posFrom s f (pos + (Utf8.decode s pos).2), by rw [← hpre]; simp⟩ ⟨hp, wr.heap.size, wr.heap.size + 1, hsr.2.2, hlt, by omega, rfl, hsX1, hX3, hX4⟩ (by omega) (n - 1)
     have hc2 := hsX1.1
     have HA := hid hX; have HK := hid hsX1
     have HZ := hid (⟨hpre, hitX, hlt, hfu, hwd, hsX, hit⟩ : _ ∧ _ ∧ _ ∧ _ ∧ _ ∧ _ ∧ _)
     rw [hX] at hy hR
     have hszi := Lib.iterAt_size wr W.heap.size s (pos + (Utf8.decode s pos).2)
     have hcr := hsr.1
     clear hX hbX hsX hsame hjX hsX1 hX3 hX4 hitX hsr hj hpre hfu hwd hit2 hcons
     gi_wp2
     refine ⟨fun h => (by cases h), ?_⟩
     refine hR.mono ?_
     rintro e W' (⟨rfl, hJ', hk⟩ | ⟨rfl, hJx', _⟩)
     · clear hR hy
       have hit3 : W'.heap[W.heap.size]? = some (.stringIter s (pos + (Utf8.decode s pos).2)) := by
         have h1 := HZ.out; have h2 := HA.out; rw [← h2] at hk
         exact (hk.2 _ hDo (by omega)).trans h1.2.1
       have hsr3 : Bx W' bs #[.string s] := by
         have h1 := HK.out; have h2 := HA.out; rw [← h2] at hk
         exact ⟨fun i => (World.cell?_of_block (a := ⟨bs, i, none⟩) (hk.2 _ hDb h1.2.2)).trans (h1.1 i), fun i => (World.frozen?_of_block (a := ⟨bs, i, none⟩) (hk.2 _ hDb h1.2.2)).trans (h1.2.1 i), Nat.lt_of_lt_of_le h1.2.2 hk.1⟩
       clear hk
       gi_wp2
       go_roundw
       case rel => exact ⟨pos + (Utf8.decode s pos).2, f, pre ++ [pos], by rw [← HZ.out.1]; simp, hit3, hJ', hsr3, by have := HZ.out; omega⟩
       case measure =>
         have := HZ.out
         simp only [World.iterPos, hit3, this.2.2.2.2.2.2]
         omega
     · clear hR hy
       gi_wp2
       refine bodyPost_ret (results_none rfl _ _ _) rfl ?_
       exact ⟨_, rfl, .inr ⟨pre ++ [pos], ⟨posFrom s f (pos + (Utf8.decode s pos).2), by rw [← HZ.out.1]; simp⟩, hJx'⟩⟩
   · have hnx : ∀ ty, (Instr.next (.pointer (some ⟨W.heap.size, 0, none⟩)) true ty).run Tryz.prog wr = _ := fun ty => Lib.run_next_end_at wr W.heap.size s pos ty hit hp
     gi_wp2
     go_end0
     refine ⟨_, rfl, .inl ?_⟩
     have : posFrom s fuel pos = [] := by cases fuel <;> simp [posFrom, hp]
     rw [this, List.append_nil] at hpre
     rw [← hpre]; exact hj
end Yd


namespace Yd
open Go Go.RowKit Go.Proofs

attribute [local go_sem] Oper.semAt_some

theorem runes_any (s : ByteArray) (w : World) : Calls Tryz.prog 124 #[.string s] w fun e w' => e = .returned (.func (.func 140) #[] #[.pointer (some ⟨w.heap.size, 0, none⟩)]) ∧ w' = w.alloc (.cells #[.string s] 9) := by
 go_enter Tryz.func124, Tryz.ntmps124
 go_wp2_with fail
 go_ret
 exact ⟨rfl, rfl⟩

def stopB (s : ByteArray) (p : Int → Bool) (pos : Nat) : Bool := !(okB s pos && p (Utf8.decode s pos).1)
def whileE (s : ByteArray) (p : Int → Bool) : Nat := ((posFrom s s.size 0).find? (stopB s p)).getD s.size
theorem find_pre {l pre : List Nat} {x : Nat} {q : Nat → Bool} (h : pre ++ [x] <+: l) (ha : ∀ y ∈ pre, q y = false) (hx : q x = true) : l.find? q = some x := by
 obtain ⟨t, rfl⟩ := h
 rw [List.append_assoc, List.find?_append, List.find?_eq_none.2 (fun y hy => by simp [ha y hy])]
 simp [hx]

theorem Bx.set1 {X : World} {b : Nat} {u : Value} (h : Bx X b #[u]) (v : Value) : Bx (X.setCell ⟨b, 0, none⟩ v) b #[v] := by
 refine ⟨fun i => ?_, fun i => by rw [World.frozen?_setCell]; exact h.2.1 i, by have := h.2.2; simpa [World.setCell] using this⟩
 cases i with
 | zero => exact World.cell?_setCell_same' _ _ _ (by rw [h.1 0]; rfl)
 | succ i => rw [World.cell?_setCell_other _ _ _ _ (by simp)]; rw [h.1 (i + 1)]; simp

theorem while_any (s : ByteArray) (gf : Nat) (lb : Array Value) (eg : ∀ args w, (callFunc gf args).run Tryz.prog w = .ok (.enter gf args) w) (p : Int → Bool) (w : World)
   (hp : ∀ (r : Int) W', Below w.heap.size w W' → Calls Tryz.prog gf (#[.int .i32 r] ++ lb) W' (Ret (.bool (p r)) W')) (hT : Lib.Utf8Tabs 2 3 w) :
   Calls Tryz.prog 85 #[.string s, .func (.func gf) #[] lb] w (Ret (.int .i64 (whileE s p)) w) := by
 refine (callsIn_wide (n := 3)).1 ?_
 refine callsIn_of_wp_marks Tryz.func85 rfl trivial ?_ rfl
 simp only [Tryz.ntmps85, List.size_toArray, List.length_cons, List.length_nil, Nat.reduceAdd, Nat.reduceSub, Array.replicate_succ, Array.replicate_zero, List.push_toArray, List.append_toArray, List.nil_append, List.cons_append]
 refine wpIn_wide.2 ?_
 go_wp2_with fail
 go_step3
 go_wp2_with fail
 go_step3
 go_wp2_with (go_at_call 124; refine (runes_any _ _).mono ?_; rintro e w' ⟨rfl, rfl⟩)
 have hs1 : ((w.alloc (.cells #[.func (.func gf) #[] lb] 111)).alloc (.cells #[.int .i64 s.size] 3)).heap.size = w.heap.size + 2 := by simp
 have hVs : (((w.alloc (.cells #[.func (.func gf) #[] lb] 111)).alloc (.cells #[.int .i64 s.size] 3)).alloc (.cells #[.string s] 9)).heap.size = w.heap.size + 3 := by simp
 have hVb : Below w.heap.size w (((w.alloc (.cells #[.func (.func gf) #[] lb] 111)).alloc (.cells #[.int .i64 s.size] 3)).alloc (.cells #[.string s] 9)) :=
   (((Below.refl w.heap.size w).alloc (Nat.le_refl _) _).alloc (by simp) _).alloc (by simp; omega) _
 have hV0 : Bx (((w.alloc (.cells #[.func (.func gf) #[] lb] 111)).alloc (.cells #[.int .i64 s.size] 3)).alloc (.cells #[.string s] 9)) w.heap.size #[.func (.func gf) #[] lb] :=
   ((Bx.new w #[.func (.func gf) #[] lb] 111).alloc _).alloc _
 have hV1 : Bx (((w.alloc (.cells #[.func (.func gf) #[] lb] 111)).alloc (.cells #[.int .i64 s.size] 3)).alloc (.cells #[.string s] 9)) (w.heap.size + 1) #[.int .i64 s.size] := by
   have := (Bx.new (w.alloc (.cells #[.func (.func gf) #[] lb] 111)) #[.int .i64 s.size] 3).alloc (.cells #[.string s] 9)
   rw [World.size_alloc] at this; exact this
 have hV2 : Bx (((w.alloc (.cells #[.func (.func gf) #[] lb] 111)).alloc (.cells #[.int .i64 s.size] 3)).alloc (.cells #[.string s] 9)) (w.heap.size + 2) #[.string s] := by
   have := Bx.new ((w.alloc (.cells #[.func (.func gf) #[] lb] 111)).alloc (.cells #[.int .i64 s.size] 3)) #[.string s] 9
   rw [hs1] at this; exact this
 clear hs1
 revert hVs hVb hV0 hV1 hV2
 generalize ((w.alloc (.cells #[.func (.func gf) #[] lb] 111)).alloc (.cells #[.int .i64 s.size] 3)).alloc (.cells #[.string s] 9) = V
 intro hVs hVb hV0 hV1 hV2
 refine wpIn_wide.1 (wpIn_iter (n := 3) (gf := 140) (lb := #[.pointer (some ⟨w.heap.size + 2, 0, none⟩)]) (by simp [go_sem]) call303
   (Rep := RepRune s (w.heap.size + 2) (V.heap.size + 2)) (k := 1) (D := fun i => i < w.heap.size ∨ i = w.heap.size + 2 ∨ i = w.heap.size + 5) (xs := posFrom s s.size 0)
   (fun W hW hWs => by have := runes_iter s (w.heap.size + 2) (fun i => i < w.heap.size ∨ i = w.heap.size + 2 ∨ i = w.heap.size + 5) W (hV2.keep hW) (.inr (.inl rfl)) (.inr (.inr (by omega))); rw [hWs] at this; exact this) (by omega)
   (fun x args X h => by obtain ⟨_, _, _, _, _, _, rfl, _⟩ := h; rfl)
   (fun pre X => Below w.heap.size w X ∧ Bx X w.heap.size #[.func (.func gf) #[] lb] ∧ Bx X (w.heap.size + 1) #[.int .i64 s.size] ∧ ∀ y ∈ pre, stopB s p y = false)
   (fun c pre X => c = .exit 0 ∧ Below w.heap.size w X ∧ ∃ pos pre', pre = pre' ++ [pos] ∧ (∀ y ∈ pre', stopB s p y = false) ∧ stopB s p pos = true ∧ Bx X (w.heap.size + 1) #[.int .i64 pos])
   (fun pre X Y h k => ⟨k.below h.1 (fun i hi => .inl (by omega)) h.1.size, k.bx h.2.1 (.inl (by omega)), k.bx h.2.2.1 (.inl (by omega)), h.2.2.2⟩)
   (fun c pre X Y h k => by
     obtain ⟨h1, h2, pos, pre', h3, h4, h5, h6⟩ := h
     exact ⟨h1, k.below h2 (fun i hi => .inl (by omega)) h2.size, pos, pre', h3, h4, h5, k.bx h6 (.inl (by omega))⟩)
   ⟨hVb, hV0, hV1, fun _ h => by cases h⟩ ?round ?done ?stop)
 case done =>
   rintro X ⟨hb, h0, h1, hall⟩ hdef
   have hc := h1.1
   simp only [Exit.inBlock, Exit.then]
   go_wp2_with fail
   refine ⟨by simp, .inl ⟨_, _, rfl, run_takeDeferred hdef, ?_⟩⟩
   refine ⟨_, results_tmp rfl _ _ _, ?_, (Same.putObj (A := fun i => i < w.heap.size) X _ (by omega)).below hb (fun i hi => hi) hb.size⟩
   rw [whileE, List.find?_eq_none.2 (fun y hy => by simp [hall y hy])]; rfl
 case stop =>
   rintro c pre X hpre ⟨rfl, hb, pos, pre', rfl, hall, hst, h1⟩ hdef
   have hc := h1.1
   refine wpIn_wide.2 ?_
   go_wp2_with fail
   refine ⟨by simp, .inl ⟨_, _, rfl, run_takeDeferred hdef, ?_⟩⟩
   refine ⟨_, results_tmp rfl _ _ _, ?_, (Same.putObj (A := fun i => i < w.heap.size) X _ (by omega)).below hb (fun i hi => hi) hb.size⟩
   rw [whileE, find_pre hpre hall hst]; rfl
 case round =>
   rintro pre pos args X ⟨hb, h0, h1, hall⟩ hpre ⟨hps, b3, b4, hb3, hB3, hb4, rfl, hxs, hx3, hx4⟩ hsz m
   gi_wp2
   refine ⟨Below.refl _ _, fun X2 hk => ?_⟩
   have hb2 : Below w.heap.size w X2 := hk.below hb (fun i hi => by omega) hb.size
   have h02 := hk.bx h0 (by omega)
   have h12 := hk.bx h1 (by omega)
   have hs2 := hk.bx hxs (by omega)
   have h32 := hk.bx hx3 (by omega)
   have h42 := hk.bx hx4 (by omega)
   have hT2 : Lib.Utf8Tabs 2 3 X2 := Utf8Tabs_below hT hb2
   have HZ := hid (show V.heap.size + 3 ≤ X2.heap.size by have := hk.size; omega)
   have HR := hid (rune11 s pos hps (w.heap.size + 2) b3 b4 X2 hs2 h32 h42 hT2)
   have HB := hid hb2; have H0 := hid h02; have H1 := hid h12
   clear hs2 h32 h42 hT2 hb2 h02 h12 hk hxs hx3 hx4 hb h0 h1
   gi_wp2
   refine ⟨trivial, fun h => (by cases h), ?_⟩
   refine (CallsIn.inRound _ (callsIn_wide.2 HR.out)).mono ?_
   rintro e W3 ⟨rfl, hb3⟩
   have HB3 := hid (HB.out.trans (hb3.mono HB.out.size))
   have H03 := hid (H0.out.keep hb3); have H13 := hid (H1.out.keep hb3)
   have HK3 := hid hb3
   have h03 := (H03.out).1
   clear hb3
   have h13 := H13.out.1; have f13 := H13.out.2.1
   cases hok : okB s pos
   · have HO := hid hok; clear hok
     gi_wp2
     refine ⟨fun _ h => (by cases h), ?_⟩
     gi_wp2
     exact ⟨⟨(Below.heap_setCell _ _ _ _ (by simp; omega)).trans (HK3.out.block _ (by have := HZ.out; omega)), (Below.heap_setCell _ _ _ _ (by simp; omega)).trans (HK3.out.block _ (by have := HZ.out; omega))⟩,
       (KeepOn.of_below HK3.out (fun i _ hi => hi)).trans ⟨by simp [World.setCell], fun i hi _ => Below.heap_setCell _ _ _ _ (by simp; omega)⟩, rfl, HB3.out.setCell (p := ⟨w.heap.size + 1, 0, none⟩) (by simp) _, pos, pre, rfl, hall, by simp [stopB, HO.out], H13.out.set1 _⟩
   · cases hpr : p (Utf8.decode s pos).1
     · have HO := hid hok; have HP := hid hpr
       clear hok hpr
       gi_wp2
       refine ⟨trivial, fun h => (by cases h), ?_⟩
       refine (CallsIn.inRound _ (callsIn_wide.2 (hp _ _ HB3.out))).mono ?_
       rintro e W4 ⟨rfl, hb4⟩
       rw [HP.out]
       have HB4 := hid (HB3.out.trans (hb4.mono HB3.out.size))
       have H04 := hid (H03.out.keep hb4); have H14 := hid (H13.out.keep hb4)
       have HK4 := hid (HK3.out.trans (hb4.mono HK3.out.size))
       have h14 := H14.out.1; have f14 := H14.out.2.1
       clear hb4 h13 h03 f13
       gi_wp2
       exact ⟨⟨(Below.heap_setCell _ _ _ _ (by simp; omega)).trans (HK4.out.block _ (by have := HZ.out; omega)), (Below.heap_setCell _ _ _ _ (by simp; omega)).trans (HK4.out.block _ (by have := HZ.out; omega))⟩,
         (KeepOn.of_below HK4.out (fun i _ hi => hi)).trans ⟨by simp [World.setCell], fun i hi _ => Below.heap_setCell _ _ _ _ (by simp; omega)⟩, rfl, HB4.out.setCell (p := ⟨w.heap.size + 1, 0, none⟩) (by simp) _, pos, pre, rfl, hall, by simp [stopB, HO.out, HP.out], H14.out.set1 _⟩
     · have HO := hid hok; have HP := hid hpr
       clear hok hpr
       gi_wp2
       refine ⟨trivial, fun h => (by cases h), ?_⟩
       refine (CallsIn.inRound _ (callsIn_wide.2 (hp _ _ HB3.out))).mono ?_
       rintro e W4 ⟨rfl, hb4⟩
       rw [HP.out]
       have HB4 := hid (HB3.out.trans (hb4.mono HB3.out.size))
       have H04 := hid (H03.out.keep hb4); have H14 := hid (H13.out.keep hb4)
       have HK4 := hid (HK3.out.trans (hb4.mono HK3.out.size))
       clear hb4 h13 h03 f13
       gi_wp2
       exact ⟨⟨HK4.out.block _ (by have := HZ.out; omega), HK4.out.block _ (by have := HZ.out; omega)⟩, KeepOn.of_below HK4.out (fun i _ hi => hi), HB4.out, H04.out, H14.out, fun y hy => by
         rcases List.mem_append.1 hy with h | h
         · exact hall y h
         · obtain rfl : y = pos := by simpa using h
           simp [stopB, HO.out, HP.out]⟩
end Yd


namespace Yd
open Go Go.RowKit Go.Proofs

theorem call190 : ∀ args w, (callFunc 87 args).run Tryz.prog w = .ok (.enter 87 args) w := enters_of Tryz.func87 (by kernel_rfl) rfl
def firstR (s : ByteArray) : Int := if h : 0 < s.size then wrap32 (s[0]'h).toNat else 0
def wordB (s : ByteArray) : Bool := !s.toList.isEmpty && decide ((s.size : Int) ≤ 24) && !numB (firstR s) && decide (whileE s eitB = s.size)
theorem pos_of_toList (s : ByteArray) (h : ¬ s.toList = []) : 0 < s.size := by
 rcases Nat.eq_zero_or_pos s.size with h0 | h0
 · have e : s = ByteArray.empty := by simpa using h0
   subst e; exact absurd (by simp) h
 · exact h0
theorem word_any (s : ByteArray) (w : World) (hT : Lib.Utf8Tabs 2 3 w) : Calls Tryz.prog 107 #[.string s] w (Ret (.bool (wordB s)) w) := by
 by_cases h0 : s.toList = []
 · have hq : wordB s = false := by simp [wordB, h0]
   rw [hq]; clear hq hT
   go_enter Tryz.func107, Tryz.ntmps107
   go_wp2_with fail
   go_ret
   exact ⟨rfl, Below.refl _ _⟩
 have h1 : s.toList.isEmpty = false := by simp [h0]
 have hs := pos_of_toList s h0
 by_cases h24 : (s.size : Int) ≤ 24
 · obtain ⟨R, hR⟩ : ∃ R : Bool, R = decide (whileE s eitB = s.size) := ⟨_, rfl⟩
   have hq : wordB s = (!numB (firstR s) && R) := by simp [wordB, h1, h24, hR]
   have hf : firstR s = wrap32 (s[0]'hs).toNat := by simp [firstR, hs]
   rw [hq, hf]
   have HT := hid hT; have HR := hid hR
   clear hq hf hT hR
   cases hn : numB (wrap32 (s[0]'hs).toNat)
   all_goals
     have HN := hid hn; clear hn
     go_enter Tryz.func107, Tryz.ntmps107
     go_wp2_with fail
     refine (number_any _ _).mono ?_
     rintro e w1 ⟨rfl, hb1⟩
     rw [HN.out]
     have HB := hid hb1; clear hb1
     go_wp2_with fail
   · refine (while_any s 87 #[] call190 eitB w1 (fun r W' _ => either_any r W') (Utf8Tabs_below HT.out HB.out)).mono ?_
     rintro e w2 ⟨rfl, hb2⟩
     go_wp2_with fail
     go_ret
     refine ⟨?_, HB.out.trans (hb2.mono HB.out.size)⟩
     rw [HR.out]
     by_cases hw : whileE s eitB = s.size
     · simp [hw]
     · have h2 : ¬ ((whileE s eitB : Int) = s.size) := by omega
       simp [hw, h2]
   · go_ret
     exact ⟨rfl, HB.out⟩
 · have hq : wordB s = false := by simp [wordB, h24]
   rw [hq]; clear hq hT
   have h24' : 24 < (s.size : Int) := by omega
   clear h24
   go_enter Tryz.func107, Tryz.ntmps107
   go_wp2_with fail
   go_ret
   exact ⟨rfl, Below.refl _ _⟩
end Yd


namespace Yd
open Go Go.RowKit Go.Proofs Go.Maps

def MapS (W : World) (b : Nat) (ns : List Bs) : Prop := ∃ D : DataW Unit, IsMap D ∧ W.ownsMap Tryz.prog 9 (plainElem Tryz.prog 4) b ns.length D ∧ ∀ s : Bs, D.atKey (.string s) (.lit (.bool false)) = .lit (.bool (decide (s ∈ ns)))
theorem MapS.new (w : World) : MapS (w.alloc (.map #[] 0)) w.heap.size [] := ⟨.map [], ⟨[], rfl⟩, World.ownsMap_made _ _ _ _, fun s => by simp [DataW.atKey]⟩
theorem MapS.of_eq {W W' : World} {b : Nat} {ns : List Bs} (h : MapS W b ns) (e : W'.heap[b]? = W.heap[b]?) : MapS W' b ns := by
 obtain ⟨D, hD, ⟨es, clock, hb, F, hs, hd⟩, hat⟩ := h
 exact ⟨D, hD, ⟨es, clock, e.trans hb, F, hs, hd⟩, hat⟩
theorem MapS.lt {W : World} {b : Nat} {ns : List Bs} (h : MapS W b ns) : b < W.heap.size := by
 obtain ⟨D, hD, hown, hat⟩ := h
 exact hown.lt

theorem Bx.of_eq {X Y : World} {b : Nat} {cs : Array Value} (h : Bx X b cs) (hs : X.heap.size ≤ Y.heap.size) (e : Y.heap[b]? = X.heap[b]?) : Bx Y b cs :=
 ⟨fun i => (World.cell?_of_block (a := ⟨b, i, none⟩) e).trans (h.1 i), fun i => (World.frozen?_of_block (a := ⟨b, i, none⟩) e).trans (h.2.1 i), Nat.lt_of_lt_of_le h.2.2 hs⟩
end Yd


namespace Yd
open Go Go.RowKit Go.Proofs

end Yd


namespace Yd
open Go Go.RowKit Go.Proofs

end Yd
