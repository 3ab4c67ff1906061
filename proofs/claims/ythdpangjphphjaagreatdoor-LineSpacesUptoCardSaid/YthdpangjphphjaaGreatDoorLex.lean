import Derived.Test.YthdpangjphphjaaGreatDoorProg
import Derived.Test.YthdpangjphphjaaGreatDoorOrd
import Derived.WalkSpells
import Derived.BigQuiet
import Derived.Laws.EntriesVeiled
import Derived.RangeFuncNested
import Derived.RangeFuncCalls
import Derived.RangeFuncLeaves
import Derived.RangeFuncSeq
set_option maxRecDepth 200000
set_option maxHeartbeats 8000000
namespace Yd
open Go Go.RowKit Go.Proofs

structure Sl where
 a : Option Addr
 n : Nat
 c : Nat
@[reducible] def Sl.v (s : Sl) : Value := .slice s.a s.n s.c
structure HC where
 t : Sl
 s : Sl
 o : Sl
 p : Sl
 e : Sl
 d : Sl
 m : Sl
 w : Sl
@[reducible] def cellsH (h : HC) : Array Value := #[h.t.v, h.s.v, h.o.v, h.p.v, h.e.v, h.d.v, h.m.v, h.w.v]

def levelB (l : Int) : Bool := decide (1 ≤ l) && decide (l ≤ 4)
def levelE (l : Int) : Int := if levelB l = true then 0 else 190
theorem levelE_yes {l : Int} (h : levelB l = true) : levelE l = 0 := by simp [levelE, h]
theorem levelE_no {l : Int} (h : levelB l = false) : levelE l = 190 := by simp [levelE, h]
theorem level_Check (l : Int) (w : World) : Calls Tryz.prog 101 #[.int .i64 l] w (Ret (.int .i64 (levelE l)) w) := by
 by_cases h1 : 1 ≤ l
 · by_cases h2 : l ≤ 4
   · go_enter Tryz.func101, Tryz.ntmps101
     go_wp2
     go_ret
     exact ⟨by rw [levelE_yes (by simp [levelB, h1, h2])]; rfl, Below.refl _ _⟩
   · go_enter Tryz.func101, Tryz.ntmps101
     go_wp2
     go_ret
     exact ⟨by rw [levelE_no (by simp [levelB]; omega)]; rfl, Below.refl _ _⟩
 · go_enter Tryz.func101, Tryz.ntmps101
   go_wp2
   go_ret
   exact ⟨by rw [levelE_no (by simp [levelB]; omega)]; rfl, Below.refl _ _⟩


end Yd


namespace Yd
open Go Go.RowKit Go.Proofs

end Yd


namespace Yd
open Go Go.RowKit Go.Proofs

end Yd


namespace Yd
open Go Go.RowKit Go.Proofs

end Yd


namespace Yd
open Go Go.RowKit Go.Proofs

end Yd


namespace Yd
open Go Go.RowKit Go.Proofs

end Yd


namespace Yd
open Go Go.RowKit Go.Proofs

def KeepOn (D : Nat → Prop) (W W' : World) : Prop := W.heap.size ≤ W'.heap.size ∧ ∀ i, D i → i < W.heap.size → W'.heap[i]? = W.heap[i]?
theorem KeepOn.trans {D : Nat → Prop} {A B C : World} (h : KeepOn D A B) (k : KeepOn D B C) : KeepOn D A C :=
 ⟨Nat.le_trans h.1 k.1, fun i hi hl => (k.2 i hi (Nat.lt_of_lt_of_le hl h.1)).trans (h.2 i hi hl)⟩
theorem KeepOn.refl {D : Nat → Prop} (A : World) : KeepOn D A A := ⟨Nat.le_refl _, fun _ _ _ => rfl⟩
theorem KeepOn.mono {D D' : Nat → Prop} {A B : World} (h : KeepOn D A B) (hd : ∀ i, D' i → i < A.heap.size → D i) : KeepOn D' A B := ⟨h.1, fun i hi hl => h.2 i (hd i hi hl) hl⟩
theorem KeepOn.putObj {D : Nat → Prop} (A : World) {l : Nat} (o : Obj) (hl : ¬ D l) : KeepOn D A (A.putObj l o) :=
 ⟨Nat.le_of_eq World.putObj_size.symm, fun _i hi _ => World.putObj_heap_other (fun e => hl (e ▸ hi))⟩
theorem KeepOn.of_below {D : Nat → Prop} {B : Nat} {X Y : World} (h : Below B X Y) (hd : ∀ i, D i → i < X.heap.size → i < B) : KeepOn D X Y := ⟨h.size, fun i hi hl => h.block i (hd i hi hl)⟩

structure Same (A : Nat → Prop) (X Y : World) : Prop where
 os : Y.os = X.os
 tape : Y.tape = X.tape
 output : Y.output = X.output
 size : X.heap.size ≤ Y.heap.size
 block : ∀ i, A i → i < X.heap.size → Y.heap[i]? = X.heap[i]?
theorem Same.of_below {A : Nat → Prop} {B : Nat} {X Y : World} (h : Below B X Y) (hd : ∀ i, A i → i < X.heap.size → i < B) : Same A X Y := ⟨h.os, h.tape, h.output, h.size, fun i hi hl => h.block i (hd i hi hl)⟩
theorem Same.mono {A A' : Nat → Prop} {X Y : World} (h : Same A X Y) (hd : ∀ i, A' i → i < X.heap.size → A i) : Same A' X Y := ⟨h.os, h.tape, h.output, h.size, fun i hi hl => h.block i (hd i hi hl) hl⟩
theorem Same.below {A : Nat → Prop} {B : Nat} {w X Y : World} (h : Below B w X) (k : Same A X Y) (hd : ∀ i, i < B → A i) (hB : B ≤ X.heap.size) : Below B w Y :=
 ⟨k.os.trans h.os, k.tape.trans h.tape, k.output.trans h.output, Nat.le_trans h.size k.size, fun i hi => (k.block i (hd i hi) (by omega)).trans (h.block i hi)⟩
theorem Same.bx {A : Nat → Prop} {X Y : World} {b : Nat} {cs : Array Value} (k : Same A X Y) (h : Bx X b cs) (ha : A b) : Bx Y b cs :=
 ⟨fun i => (World.cell?_of_block (a := ⟨b, i, none⟩) (k.block b ha h.2.2)).trans (h.1 i), fun i => (World.frozen?_of_block (a := ⟨b, i, none⟩) (k.block b ha h.2.2)).trans (h.2.1 i), Nat.lt_of_lt_of_le h.2.2 k.size⟩
theorem Same.putObj {A : Nat → Prop} (X : World) {l : Nat} (o : Obj) (hl : ¬ A l) : Same A X (X.putObj l o) :=
 ⟨rfl, rfl, rfl, Nat.le_of_eq World.putObj_size.symm, fun _i hi _ => World.putObj_heap_other (fun e => hl (e ▸ hi))⟩

def endsRound (l : Nat) (r : Loop) (R : Ending → World → Prop) : Exit → Act → World → Prop
 | .normal, _, W => W.heap[l]? = some (.loop { r with state := .busy }) ∧ R (.returned (.bool true)) (W.putObj l (.loop { r with state := .ready, pending := none }))
 | .ret, _, W => W.heap[l]? = some (.loop { r with state := .busy }) ∧ R (.returned (.bool false)) (W.putObj l (.loop { r with state := .done, pending := some .ret }))
 | .exit id, _, W => W.heap[l]? = some (.loop { r with state := .busy }) ∧ R (.returned (.bool false)) (W.putObj l (.loop { r with state := .done, pending := some (.exit id) }))
 | .goto t, _, W => W.heap[l]? = some (.loop { r with state := .busy }) ∧ R (.returned (.bool false)) (W.putObj l (.loop { r with state := .done, pending := some (.goto t) }))
 | .panic _, _, _ => False
 | .outgrown, _, _ => False

theorem yieldAt_of {F : Fence} {n : Nat} {P : Program} {l : Nat} {r : Loop} {args : Array Value} {W : World} {R : Ending → World → Prop}
   (hl : W.heap[l]? = some (.loop r)) (hr : r.state = .ready) (hF : F.fn r.fn) (hs : args.size = r.params.size)
   (h : r.assign.wpIn (F.inRound l) n P (Exit.then (fun a₁ W₁ => W₁.heap[l]? = some (.loop r) ∧ r.body.wpIn (F.inRound l) n P (endsRound l r R) a₁ (W₁.putObj l (.loop { r with state := .busy }))) (fun _ _ _ => False))
     { tmps := (r.params.zip args).foldl (fun t (p, v) => t.setIfInBounds p v) r.tmps, defers := [] } W) : YieldAt F n P l args W R := by
 refine ⟨r.fn, _, r.assign, r.body, run_yield hl hs, roundIn_of_wpIn hF ?_⟩
 refine wpIn_mono h ?_
 rintro e a₁ W₁ hp
 cases e with
 | normal =>
   obtain ⟨hl1, hb⟩ := hp
   refine ⟨_, run_beginRound hl1 hr, wpIn_mono hb ?_⟩
   rintro e a₂ W₂ hq
   cases e with
   | normal => exact ⟨_, _, run_endRound none hq.1, hq.2⟩
   | ret => exact ⟨_, _, run_endRound (some .ret) hq.1, hq.2⟩
   | exit id => exact ⟨_, _, run_endRound (some (.exit id)) hq.1, hq.2⟩
   | goto t => exact ⟨_, _, run_endRound (some (.goto t)) hq.1, hq.2⟩
   | panic _ => exact hq.elim
   | outgrown => exact hq.elim
 | _ => exact hp.elim

def Iter (P : Program) (gf : Nat) (lb : Array Value) {α : Type} (Rep : α → Array Value → World → Prop) (k : Nat) (D : Nat → Prop) (xs : List α) (W : World) : Prop :=
 ∀ (n l : Nat) (J Jx : List α → World → Prop),
   (∀ s X Y, J s X → Same (fun i => i < W.heap.size ∨ W.heap.size + k ≤ i) X Y → J s Y) →
   (∀ s X Y, Jx s X → Same (fun i => i < W.heap.size ∨ W.heap.size + k ≤ i) X Y → Jx s Y) →
   (∀ pre x args X, J pre X → pre ++ [x] <+: xs → Rep x args X → W.heap.size + k ≤ X.heap.size → ∀ m, YieldAt Fence.wide m P l args X fun e Y =>
     (e = .returned (.bool true) ∧ J (pre ++ [x]) Y ∧ KeepOn D X Y) ∨ (e = .returned (.bool false) ∧ Jx (pre ++ [x]) Y ∧ KeepOn D X Y)) →
   J [] W →
   CallsIn Fence.wide n P gf (#[.func (.yield l) #[] #[]] ++ lb) W fun e Y => ∃ v, e = .returned v ∧ (J xs Y ∨ ∃ pre, pre <+: xs ∧ Jx pre Y)

def roundPostY {α : Type} (l : Nat) (D : Nat → Prop) (I : List α → World → Prop) (Ix : Code → List α → World → Prop) (xs : List α) (X : World) : Exit → Act → World → Prop
 | .normal, _, Y => (Y.heap[l]? = X.heap[l]? ∧ Y.heap[l + 1]? = X.heap[l + 1]?) ∧ KeepOn D X Y ∧ I xs Y
 | .ret, _, Y => (Y.heap[l]? = X.heap[l]? ∧ Y.heap[l + 1]? = X.heap[l + 1]?) ∧ KeepOn D X Y ∧ Ix .ret xs Y
 | .exit id, _, Y => (Y.heap[l]? = X.heap[l]? ∧ Y.heap[l + 1]? = X.heap[l + 1]?) ∧ KeepOn D X Y ∧ Ix (.exit id) xs Y
 | .goto t, _, Y => (Y.heap[l]? = X.heap[l]? ∧ Y.heap[l + 1]? = X.heap[l + 1]?) ∧ KeepOn D X Y ∧ Ix (.goto t) xs Y
 | .panic _, _, _ => False
 | .outgrown, _, _ => False

theorem wpIn_iter {P : Program} {α : Type} {g : Operand} {ps : Array Tmp} {assign body : Code} {Q : Exit → Act → World → Prop} {a : Act} {w : World} {n : Nat}
   {gf : Nat} {lb : Array Value} (hg : a.eval g = .func (.func gf) #[] lb) (eg : ∀ args w, (callFunc gf args).run P w = .ok (.enter gf args) w)
   {Rep : α → Array Value → World → Prop} {k : Nat} {D : Nat → Prop} {xs : List α}
   (hseq : ∀ W, Below w.heap.size w W → W.heap.size = w.heap.size + 2 → Iter P gf lb Rep k D xs W)
   (hD : ¬ D (w.heap.size + 1)) (hps : ∀ x args X, Rep x args X → args.size = ps.size)
   (I : List α → World → Prop) (Ix : Code → List α → World → Prop)
   (hI : ∀ s X Y, I s X → Same (fun i => i < w.heap.size ∨ w.heap.size + 2 + k ≤ i) X Y → I s Y)
   (hIx : ∀ c s X Y, Ix c s X → Same (fun i => i < w.heap.size ∨ w.heap.size + 2 + k ≤ i) X Y → Ix c s Y)
   (h0 : I [] w)
   (hround : ∀ pre x args X, I pre X → pre ++ [x] <+: xs → Rep x args X → w.heap.size + 2 + k ≤ X.heap.size → ∀ m,
     assign.wpIn (Fence.wide.inRound (w.heap.size + 1)) m P (Exit.then (fun a₁ X₁ => Below X.heap.size X X₁ ∧ ∀ X₂ : World, Same (fun i => i ≠ w.heap.size + 1) X₁ X₂ →
         body.wpIn (Fence.wide.inRound (w.heap.size + 1)) m P (roundPostY w.heap.size D I Ix (pre ++ [x]) X₂) a₁ X₂) (fun _ _ _ => False))
       { tmps := (ps.zip args).foldl (fun t (p, v) => t.setIfInBounds p v) a.tmps, defers := [] } X)
   (hdone : ∀ X, I xs X → X.heap[w.heap.size]? = some (.deferred (some [])) → Q .normal { a with defers := { target := .collected w.heap.size, args := #[] } :: a.defers } X)
   (hstop : ∀ c pre X, pre <+: xs → Ix c pre X → X.heap[w.heap.size]? = some (.deferred (some [])) → c.wpIn Fence.wide n P Q { a with defers := { target := .collected w.heap.size, args := #[] } :: a.defers } X) :
   (Code.rangeFunc g ps assign body).wpIn Fence.wide n P Q a w := by
 refine wpIn_rangeFunc ?_
 intro fn hfn
 obtain ⟨r, hr⟩ : ∃ r : Loop, r = { state := .ready, pending := none, fn, tmps := a.tmps, params := ps, assign, body, defers := w.heap.size } := ⟨_, rfl⟩
 obtain ⟨W1, hW1⟩ : ∃ W1, (w.alloc (.deferred (some []))).alloc (.loop r) = W1 := ⟨_, rfl⟩
 have hs1 : W1.heap.size = w.heap.size + 2 := by rw [← hW1]; simp
 have hL1 : W1.heap[w.heap.size + 1]? = some (.loop r) := by
   rw [← hW1]; have := World.alloc_heap_new (w.alloc (.deferred (some []))) (.loop r); rwa [World.size_alloc] at this
 have hK1 : W1.heap[w.heap.size]? = some (.deferred (some [])) := by
   rw [← hW1]; exact (Below.heap_alloc _ _ _ (by simp)).trans (World.alloc_heap_new w _)
 have hb1 : Below w.heap.size w W1 := by rw [← hW1]; exact ((Below.refl _ w).alloc (Nat.le_refl _) _).alloc (by simp) _
 have hI1 : I [] W1 := hI _ _ _ h0 (.of_below hb1 (fun i _ hi => hi))
 refine ⟨w.heap.size + 1, [{ target := .collected w.heap.size, args := #[] }], W1, { target := .fn (.func gf) lb, args := #[.func (.yield (w.heap.size + 1)) #[] #[]] }, W1, gf,
   #[.func (.yield (w.heap.size + 1)) #[] #[]] ++ lb, W1, ?_, ?_, fun _ _ => trivial, ?_, fun h => (by cases h), ?_⟩
 · rw [← hW1, hr]; exact run_enterLoop_outer _ _ _ _ _
 · simp only [resolve, hg]
   simp [go_sem]
 · simp [invoke, go_sem, eg]
 have hput : ∀ (s : List α) (X : World) (o : Obj), I s X → I s (X.putObj (w.heap.size + 1) o) := fun s X o h => hI s _ _ h (.putObj X o (by omega))
 have hputx : ∀ (c : Code) (s : List α) (X : World) (o : Obj), Ix c s X → Ix c s (X.putObj (w.heap.size + 1) o) := fun c s X o h => hIx c s _ _ h (.putObj X o (by omega))
 refine (hseq W1 hb1 hs1 (n - 1) (w.heap.size + 1)
   (fun pre X => I pre X ∧ X.heap[w.heap.size + 1]? = some (.loop r) ∧ X.heap[w.heap.size]? = some (.deferred (some [])))
   (fun pre X => ∃ c, Ix c pre X ∧ X.heap[w.heap.size + 1]? = some (.loop { r with state := .done, pending := some c }) ∧ X.heap[w.heap.size]? = some (.deferred (some [])))
   ?_ ?_ ?_ ⟨hI1, hL1, hK1⟩).mono ?_
 · rintro s X Y ⟨h1, h2, h3⟩ hsame
   have e2 := (Array.getElem?_eq_some_iff.1 h2).1
   exact ⟨hI s X Y h1 (hsame.mono (fun i hi hl => by omega)), (hsame.block _ (by omega) e2).trans h2, (hsame.block _ (by omega) (by omega)).trans h3⟩
 · rintro s X Y ⟨c, h1, h2, h3⟩ hsame
   have e2 := (Array.getElem?_eq_some_iff.1 h2).1
   exact ⟨c, hIx c s X Y h1 (hsame.mono (fun i hi hl => by omega)), (hsame.block _ (by omega) e2).trans h2, (hsame.block _ (by omega) (by omega)).trans h3⟩
 · rintro pre x args X ⟨hi, hl, hk⟩ hpx hrep hsz m
   have hra : r.assign = assign := by rw [hr]
   have hrb : r.body = body := by rw [hr]
   have hrp : r.params = ps := by rw [hr]
   have hrt : r.tmps = a.tmps := by rw [hr]
   have hrs : r.state = .ready := by rw [hr]
   have hrn : r.pending = none := by rw [hr]
   have hrr : ({ r with state := .ready, pending := none } : Loop) = r := by rw [hr]
   refine yieldAt_of hl hrs trivial (by rw [hrp]; exact hps x args X hrep) ?_
   have hR := hround pre x args X hi hpx hrep (by omega) m
   rw [← hra, ← hrb, ← hrp, ← hrt] at hR
   refine wpIn_mono hR ?_
   rintro e a1 X1 hp
   cases e with
   | normal =>
     obtain ⟨hb, hbody⟩ := hp
     have hlX := (Array.getElem?_eq_some_iff.1 hl).1
     have hl1 : X1.heap[w.heap.size + 1]? = some (.loop r) := (hb.block _ (by omega)).trans hl
     have hk1 : X1.heap[w.heap.size]? = some (.deferred (some [])) := (hb.block _ (by omega)).trans hk
     have hlt1 := (Array.getElem?_eq_some_iff.1 hl1).1
     refine ⟨hl1, wpIn_mono (hbody _ (.putObj X1 _ (by omega))) ?_⟩
     have hl2 : (X1.putObj (w.heap.size + 1) (.loop { r with state := .busy })).heap[w.heap.size + 1]? = some (.loop { r with state := .busy }) := World.putObj_heap_same hlt1
     have hk2 : (X1.putObj (w.heap.size + 1) (.loop { r with state := .busy })).heap[w.heap.size]? = some (.deferred (some [])) := (World.putObj_heap_other (by omega)).trans hk1
     rintro e a3 X3 hq
     have fin : ∀ o, X3.heap[w.heap.size + 1]? = (X1.putObj (w.heap.size + 1) (.loop { r with state := .busy })).heap[w.heap.size + 1]? → (X3.putObj (w.heap.size + 1) o).heap[w.heap.size + 1]? = some o := fun o h =>
       World.putObj_heap_same ((Array.getElem?_eq_some_iff.1 (h.trans hl2)).1)
     have keep : ∀ o, KeepOn D (X1.putObj (w.heap.size + 1) (.loop { r with state := .busy })) X3 → KeepOn D X (X3.putObj (w.heap.size + 1) o) := fun o hC =>
       (KeepOn.of_below hb (fun i _ hi => hi)).trans (((KeepOn.putObj X1 _ hD).trans hC).trans (KeepOn.putObj X3 _ hD))
     cases e with
     | normal =>
       obtain ⟨⟨hA, hB⟩, hC, hE⟩ := hq
       refine ⟨hB.trans hl2, .inl ⟨rfl, ⟨hput _ _ _ hE, (fin _ hB).trans (by rw [hrr]), (World.putObj_heap_other (by omega)).trans (hA.trans hk2)⟩, ?_⟩⟩
       exact (KeepOn.of_below hb (fun i _ hi => hi)).trans (((KeepOn.putObj X1 _ hD).trans hC).trans (KeepOn.putObj X3 _ hD))
     | ret =>
       obtain ⟨⟨hA, hB⟩, hC, hE⟩ := hq
       exact ⟨hB.trans hl2, .inr ⟨rfl, ⟨.ret, hputx _ _ _ _ hE, fin _ hB, (World.putObj_heap_other (by omega)).trans (hA.trans hk2)⟩, keep _ hC⟩⟩
     | exit id =>
       obtain ⟨⟨hA, hB⟩, hC, hE⟩ := hq
       exact ⟨hB.trans hl2, .inr ⟨rfl, ⟨.exit id, hputx _ _ _ _ hE, fin _ hB, (World.putObj_heap_other (by omega)).trans (hA.trans hk2)⟩, keep _ hC⟩⟩
     | goto t =>
       obtain ⟨⟨hA, hB⟩, hC, hE⟩ := hq
       exact ⟨hB.trans hl2, .inr ⟨rfl, ⟨.goto t, hputx _ _ _ _ hE, fin _ hB, (World.putObj_heap_other (by omega)).trans (hA.trans hk2)⟩, keep _ hC⟩⟩
     | panic _ => exact hq.elim
     | outgrown => exact hq.elim
   | _ => exact hp.elim
 · rintro e X2 ⟨v, rfl, (⟨hi, hl, hk⟩ | ⟨pre, hpre, c, hi, hl, hk⟩)⟩
   · exact ⟨none, _, by have := run_endLoop (P := P) hl (by rw [hr]; simp); rwa [hr] at this, hdone _ (hput _ _ _ hi) ((World.putObj_heap_other (by omega)).trans hk)⟩
   · exact ⟨some c, _, run_endLoop (P := P) hl (by simp), hstop c pre _ hpre (hputx _ _ _ _ hi) ((World.putObj_heap_other (by omega)).trans hk)⟩
end Yd


namespace Yd
open Go Go.RowKit Go.Proofs

def numB (r : Int) : Bool := decide (48 ≤ r) && decide (r ≤ 57)
theorem number_any (r : Int) (w : World) : Calls Tryz.prog 84 #[.int .i32 r] w (Ret (.bool (numB r)) w) := by
 by_cases h1 : 48 ≤ r
 · by_cases h2 : r ≤ 57
   · have hq : numB r = true := by simp [numB, h1, h2]
     rw [hq]; clear hq
     go_enter Tryz.func84, Tryz.ntmps84
     go_wp2_with fail
     go_ret
     exact ⟨rfl, Below.refl _ _⟩
   · have hq : numB r = false := by simp [numB, h2]
     rw [hq]; clear hq
     go_enter Tryz.func84, Tryz.ntmps84
     go_wp2_with fail
     go_ret
     exact ⟨rfl, Below.refl _ _⟩
 · have hq : numB r = false := by simp [numB, h1]
   rw [hq]; clear hq
   go_enter Tryz.func84, Tryz.ntmps84
   go_wp2_with fail
   go_ret
   exact ⟨rfl, Below.refl _ _⟩

def letB (r : Int) : Bool := decide (r = 95) || (decide (97 ≤ r) && decide (r ≤ 122)) || (decide (65 ≤ r) && decide (r ≤ 90)) || decide (128 ≤ r)
theorem letter_0 (r : Int) (w : World) (h0 : r = 95) (_h1 : ¬ 97 ≤ r) (_h2 : r ≤ 122) (_h3 : 65 ≤ r) (_h4 : ¬ r ≤ 90) (_h5 : ¬ 128 ≤ r) : Calls Tryz.prog 127 #[.int .i32 r] w (Ret (.bool true) w) := by
 skip
 go_enter Tryz.func127, Tryz.ntmps127
 go_wp2_with fail
 go_ret
 exact ⟨rfl, Below.refl _ _⟩

theorem letter_1 (r : Int) (w : World) (h0 : ¬ r = 95) (h1 : 97 ≤ r) (h2 : r ≤ 122) (_h3 : 65 ≤ r) (_h4 : ¬ r ≤ 90) (_h5 : ¬ 128 ≤ r) : Calls Tryz.prog 127 #[.int .i32 r] w (Ret (.bool true) w) := by
 have hb : (r == 95) = false := beq_eq_false_iff_ne.2 h0
 go_enter Tryz.func127, Tryz.ntmps127
 go_wp2_with fail
 go_ret
 exact ⟨rfl, Below.refl _ _⟩

theorem letter_2 (r : Int) (w : World) (h0 : ¬ r = 95) (h1 : 97 ≤ r) (h2 : ¬ r ≤ 122) (h3 : 65 ≤ r) (h4 : ¬ r ≤ 90) (h5 : ¬ 128 ≤ r) : Calls Tryz.prog 127 #[.int .i32 r] w (Ret (.bool false) w) := by
 have hb : (r == 95) = false := beq_eq_false_iff_ne.2 h0
 go_enter Tryz.func127, Tryz.ntmps127
 go_wp2_with fail
 go_ret
 exact ⟨rfl, Below.refl _ _⟩

theorem letter_3 (r : Int) (w : World) (h0 : ¬ r = 95) (h1 : 97 ≤ r) (h2 : ¬ r ≤ 122) (h3 : 65 ≤ r) (h4 : ¬ r ≤ 90) (h5 : 128 ≤ r) : Calls Tryz.prog 127 #[.int .i32 r] w (Ret (.bool true) w) := by
 have hb : (r == 95) = false := beq_eq_false_iff_ne.2 h0
 go_enter Tryz.func127, Tryz.ntmps127
 go_wp2_with fail
 go_ret
 exact ⟨rfl, Below.refl _ _⟩

theorem letter_4 (r : Int) (w : World) (h0 : ¬ r = 95) (h1 : ¬ 97 ≤ r) (_h2 : r ≤ 122) (h3 : 65 ≤ r) (h4 : r ≤ 90) (_h5 : ¬ 128 ≤ r) : Calls Tryz.prog 127 #[.int .i32 r] w (Ret (.bool true) w) := by
 have hb : (r == 95) = false := beq_eq_false_iff_ne.2 h0
 go_enter Tryz.func127, Tryz.ntmps127
 go_wp2_with fail
 go_ret
 exact ⟨rfl, Below.refl _ _⟩

theorem letter_5 (r : Int) (w : World) (h0 : ¬ r = 95) (h1 : ¬ 97 ≤ r) (_h2 : r ≤ 122) (h3 : 65 ≤ r) (h4 : ¬ r ≤ 90) (h5 : ¬ 128 ≤ r) : Calls Tryz.prog 127 #[.int .i32 r] w (Ret (.bool false) w) := by
 have hb : (r == 95) = false := beq_eq_false_iff_ne.2 h0
 go_enter Tryz.func127, Tryz.ntmps127
 go_wp2_with fail
 go_ret
 exact ⟨rfl, Below.refl _ _⟩

theorem letter_6 (r : Int) (w : World) (h0 : ¬ r = 95) (h1 : ¬ 97 ≤ r) (_h2 : r ≤ 122) (h3 : ¬ 65 ≤ r) (_h4 : r ≤ 90) (h5 : ¬ 128 ≤ r) : Calls Tryz.prog 127 #[.int .i32 r] w (Ret (.bool false) w) := by
 have hb : (r == 95) = false := beq_eq_false_iff_ne.2 h0
 go_enter Tryz.func127, Tryz.ntmps127
 go_wp2_with fail
 go_ret
 exact ⟨rfl, Below.refl _ _⟩

theorem letter_any (r : Int) (w : World) : Calls Tryz.prog 127 #[.int .i32 r] w (Ret (.bool (letB r)) w) := by
 by_cases h0 : r = 95
 · have hq : letB r = true := by simp [letB, h0]
   rw [hq]; exact letter_0 r w h0 (by omega) (by omega) (by omega) (by omega) (by omega)
 by_cases h1 : 97 ≤ r
 · by_cases h2 : r ≤ 122
   · have hq : letB r = true := by simp [letB, h1, h2]
     rw [hq]; exact letter_1 r w h0 h1 h2 (by omega) (by omega) (by omega)
   · by_cases h5 : 128 ≤ r
     · have hq : letB r = true := by simp [letB, h5]
       rw [hq]; exact letter_3 r w h0 h1 h2 (by omega) (by omega) h5
     · have hq : letB r = false := by simp [letB]; omega
       rw [hq]; exact letter_2 r w h0 h1 h2 (by omega) (by omega) h5
 · by_cases h3 : 65 ≤ r
   · by_cases h4 : r ≤ 90
     · have hq : letB r = true := by simp [letB, h3, h4]
       rw [hq]; exact letter_4 r w h0 h1 (by omega) h3 h4 (by omega)
     · have hq : letB r = false := by simp [letB]; omega
       rw [hq]; exact letter_5 r w h0 h1 (by omega) h3 h4 (by omega)
   · have hq : letB r = false := by simp [letB]; omega
     rw [hq]; exact letter_6 r w h0 h1 (by omega) h3 (by omega) (by omega)

def eitB (r : Int) : Bool := letB r || numB r
theorem either_any (r : Int) (w : World) : Calls Tryz.prog 87 #[.int .i32 r] w (Ret (.bool (eitB r)) w) := by
 cases hl : letB r
 all_goals
   have HL := hid hl; clear hl
   go_enter Tryz.func87, Tryz.ntmps87
   go_wp2_with fail
   refine (letter_any r w).mono ?_
   rintro e w1 ⟨rfl, hb1⟩
   rw [HL.out]
   have HB := hid hb1
   clear hb1
   go_wp2_with fail
 · refine (number_any r w1).mono ?_
   rintro e w2 ⟨rfl, hb2⟩
   go_wp2_with fail
   go_ret
   exact ⟨by simp [eitB, HL.out], HB.out.trans (hb2.mono HB.out.size)⟩
 · go_ret
   exact ⟨by simp [eitB, HL.out], HB.out⟩

end Yd
