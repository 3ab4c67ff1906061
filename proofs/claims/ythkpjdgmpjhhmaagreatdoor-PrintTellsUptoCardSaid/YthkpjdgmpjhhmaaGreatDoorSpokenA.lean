import Derived.Test.YthkpjdgmpjhhmaaGreatDoorWords
import Derived.Test.YthkpjdgmpjhhmaaGreatDoorShape
import Derived.LoopIn
import Derived.LoopNIn
import Derived.TacticsInMore
import Derived.OwnWalkIn
import Derived.Shelf.Abstract
import Derived.Shelf.RegionOpen
import Derived.Test.YthkpjdgmpjhhmaaGreatDoorProg
import Derived.Test.YthkpjdgmpjhhmaaGreatDoorGround
set_option maxRecDepth 200000
set_option maxHeartbeats 8000000
namespace Yd
open Go Go.RowKit Go.Proofs

attribute [local go_sem] Oper.semAt_some

theorem Same.setCell {A : Nat → Prop} (X : World) (b o : Nat) (v : Value) (hb : ¬ A b) : Same A X (X.setCell ⟨b, o, none⟩ v) :=
 ⟨rfl, rfl, rfl, by simp [World.setCell], fun i hi _ => Below.heap_setCell _ _ _ _ (fun e => by have e' : i = b := e; rw [e'] at hi; exact hb hi)⟩
theorem KeepOn.setCell {A : Nat → Prop} (X : World) (b o : Nat) (v : Value) (hb : ¬ A b) : KeepOn A X (X.setCell ⟨b, o, none⟩ v) :=
 ⟨by simp [World.setCell], fun i hi _ => Below.heap_setCell _ _ _ _ (fun e => by have e' : i = b := e; rw [e'] at hi; exact hb hi)⟩
theorem KeepOn.bx {A : Nat → Prop} {X Y : World} {b : Nat} {cs : Array Value} (k : KeepOn A X Y) (h : Bx X b cs) (ha : A b) : Bx Y b cs :=
 ⟨fun i => (World.cell?_of_block (a := ⟨b, i, none⟩) (k.2 b ha h.2.2)).trans (h.1 i), fun i => (World.frozen?_of_block (a := ⟨b, i, none⟩) (k.2 b ha h.2.2)).trans (h.2.1 i), Nat.lt_of_lt_of_le h.2.2 k.1⟩
theorem Bx.setOther {X : World} {b : Nat} {cs : Array Value} (h : Bx X b cs) (c o : Nat) (v : Value) (hb : b ≠ c) : Bx (X.setCell ⟨c, o, none⟩ v) b cs :=
 (KeepOn.setCell (A := fun i => i ≠ c) X c o v (by simp)).bx h hb

def RepNum (bw : Nat) (x : Int × Int) (args : Array Value) (X : World) : Prop :=
 ∃ b o, b < bw ∧ args = #[.int .i64 x.1, .pointer (some ⟨b, o, none⟩)] ∧ X.cell? ⟨b, o, none⟩ = some (.int .i64 x.2)

section
variable (J Jx : List (Int × Int) → World → Prop) (D : Nat → Prop) (xs : List (Int × Int)) (B l bw : Nat)
def At (pre : List (Int × Int)) (X : World) : Prop :=
 Bx X B #[.func (.yield l) #[] #[]] ∧ Bx X (B + 2) #[.func (.func 109) #[] #[.pointer (some ⟨B + 1, 0, none⟩), .pointer (some ⟨B, 0, none⟩)]] ∧
 ((Bx X (B + 1) #[.bool true] ∧ J pre X) ∨ (Bx X (B + 1) #[.bool false] ∧ ∃ p, p <+: xs ∧ Jx p X))

theorem say_any (hJ : ∀ s X Y, J s X → Same (fun i => i < B ∨ B + 3 ≤ i) X Y → J s Y) (hJx : ∀ s X Y, Jx s X → Same (fun i => i < B ∨ B + 3 ≤ i) X Y → Jx s Y)
   (hD : ∀ i, B ≤ i → i < B + 3 → D i)
   (hY : ∀ pre x args X, J pre X → pre ++ [x] <+: xs → RepNum bw x args X → B + 3 ≤ X.heap.size → ∀ m, YieldAt Fence.wide m Tryz.prog l args X fun e Y =>
     (e = .returned (.bool true) ∧ J (pre ++ [x]) Y ∧ KeepOn D X Y) ∨ (e = .returned (.bool false) ∧ Jx (pre ++ [x]) Y ∧ KeepOn D X Y))
   (pre : List (Int × Int)) (x : Int × Int) (b o : Nat) (X : World) (hpre : pre ++ [x] <+: xs) (hX : At J Jx xs B l pre X) (hlt : b < bw) (hc : X.cell? ⟨b, o, none⟩ = some (.int .i64 x.2)) (m : Nat) :
   CallsIn Fence.wide m Tryz.prog 109 #[.int .i64 x.1, .pointer (some ⟨b, o, none⟩), .pointer (some ⟨B + 1, 0, none⟩), .pointer (some ⟨B, 0, none⟩)] X fun e Y =>
     (∃ v, e = .returned v) ∧ At J Jx xs B l (pre ++ [x]) Y ∧ KeepOn (fun i => D i ∧ ¬ (B ≤ i ∧ i < B + 3)) X Y := by
 obtain ⟨h0, h2, h1⟩ := hX
 have hc0 := h0.1; have hl0 := h0.2.2
 rcases h1 with ⟨h1, hj⟩ | ⟨h1, p, hp, hj⟩
 · have hc1 := h1.1; have hl1 := h1.2.2
   obtain ⟨fn, tmps, assign, body, hy, hR⟩ := hY pre x #[.int .i64 x.1, .pointer (some ⟨b, o, none⟩)] X hj hpre ⟨b, o, hlt, rfl, hc⟩ h2.2.2 (m - 1)
   refine callsIn_of_wp Tryz.func109 rfl trivial ?_ rfl
   simp only [Tryz.ntmps109, List.size_toArray, List.length_cons, List.length_nil, Nat.reduceAdd, Nat.reduceSub, Array.replicate_succ, Array.replicate_zero, List.push_toArray, List.append_toArray, List.nil_append, List.cons_append]
   have H0 := hid h0; have H2 := hid h2; have H1 := hid h1
   gi_wp2
   refine ⟨fun h => (by cases h), ?_⟩
   refine hR.mono ?_
   clear hR hy hj
   rintro e Y (⟨rfl, hJ', hk⟩ | ⟨rfl, hJx', hk⟩)
   · have hy1 := hk.bx H1.out (hD _ (by omega) (by omega)); have hy0 := hk.bx H0.out (hD _ (by omega) (by omega)); have hy2 := hk.bx H2.out (hD _ (by omega) (by omega))
     have hc1 := hy1.1; have hf1 := hy1.2.1
     gi_wp2
     go_end0
     exact ⟨⟨_, rfl⟩, ⟨hy0.setOther _ _ _ (by omega), hy2.setOther _ _ _ (by omega), .inl ⟨hy1.set1 _, hJ _ _ _ hJ' (Same.setCell _ _ _ _ (by omega))⟩⟩,
       (hk.mono (fun i hi _ => hi.1)).trans (KeepOn.setCell _ _ _ _ (by omega))⟩
   · have hy1 := hk.bx H1.out (hD _ (by omega) (by omega)); have hy0 := hk.bx H0.out (hD _ (by omega) (by omega)); have hy2 := hk.bx H2.out (hD _ (by omega) (by omega))
     have hc1 := hy1.1; have hf1 := hy1.2.1
     gi_wp2
     go_end0
     exact ⟨⟨_, rfl⟩, ⟨hy0.setOther _ _ _ (by omega), hy2.setOther _ _ _ (by omega), .inr ⟨hy1.set1 _, _, hpre, hJx _ _ _ hJx' (Same.setCell _ _ _ _ (by omega))⟩⟩,
       (hk.mono (fun i hi _ => hi.1)).trans (KeepOn.setCell _ _ _ _ (by omega))⟩
 · have hc1 := h1.1; have hl1 := h1.2.2; have hf1 := h1.2.1
   have H0 := hid h0; have H2 := hid h2; have H1 := hid h1
   refine callsIn_of_wp Tryz.func109 rfl trivial ?_ rfl
   simp only [Tryz.ntmps109, List.size_toArray, List.length_cons, List.length_nil, Nat.reduceAdd, Nat.reduceSub, Array.replicate_succ, Array.replicate_zero, List.push_toArray, List.append_toArray, List.nil_append, List.cons_append]
   gi_wp2
   refine ⟨fun _ h => (by cases h), ?_⟩
   gi_wp2
   go_end0
   exact ⟨⟨_, rfl⟩, ⟨H0.out.setOther _ _ _ (by omega), H2.out.setOther _ _ _ (by omega), .inr ⟨H1.out.set1 _, p, hp, hJx _ _ _ hj (Same.setCell _ _ _ _ (by omega))⟩⟩, KeepOn.setCell _ _ _ _ (by omega)⟩
end
end Yd


namespace Yd
open Go Go.RowKit Go.Proofs

variable (J Jx : List (Int × Int) → World → Prop) (D : Nat → Prop) (xs : List (Int × Int)) (B l bw : Nat)
def Said (J Jx : List (Int × Int) → World → Prop) (D : Nat → Prop) (xs : List (Int × Int)) (B l : Nat) (pre : List (Int × Int)) (X : World) (e : Ending) (Y : World) : Prop :=
 (∃ v, e = .returned v) ∧ At J Jx xs B l pre Y ∧ KeepOn (fun i => D i ∧ ¬ (B ≤ i ∧ i < B + 3)) X Y
def verN (v : Ver) : List (Int × Int) := if 0 < v.k then [(0, v.t)] else []
theorem ver_any (hJ : ∀ s X Y, J s X → Same (fun i => i < B ∨ B + 3 ≤ i) X Y → J s Y) (hJx : ∀ s X Y, Jx s X → Same (fun i => i < B ∨ B + 3 ≤ i) X Y → Jx s Y)
   (hD : ∀ i, B ≤ i → i < B + 3 → D i)
   (hY : ∀ pre x args X, J pre X → pre ++ [x] <+: xs → RepNum bw x args X → B + 3 ≤ X.heap.size → ∀ m, YieldAt Fence.wide m Tryz.prog l args X fun e Y =>
     (e = .returned (.bool true) ∧ J (pre ++ [x]) Y ∧ KeepOn D X Y) ∨ (e = .returned (.bool false) ∧ Jx (pre ++ [x]) Y ∧ KeepOn D X Y))
   (pre : List (Int × Int)) (v : Ver) (b o : Nat) (X : World) (hpre : pre ++ verN v <+: xs) (hX : At J Jx xs B l pre X) (hlt : b < bw) (hc0 : X.cell? ⟨b, o, none⟩ = some (.int .i64 v.t)) (hc1 : X.cell? ⟨b, o + 1, none⟩ = some (.int .i64 v.k)) :
   Calls Tryz.prog 110 #[.pointer (some ⟨b, o, none⟩), .pointer (some ⟨B + 2, 0, none⟩)] X (Said J Jx D xs B l (pre ++ verN v) X) := by
 by_cases hk : 0 < v.k
 · have hv : verN v = [(0, v.t)] := by simp [verN, hk]
   rw [hv] at hpre ⊢
   have HX := hid hX
   go_enter Tryz.func110, Tryz.ntmps110
   go_wp2_with fail
   have hx2 := hX.2.1
   have hAd : At J Jx xs B l pre X.drew := ⟨hX.1.drew, hX.2.1.drew, by
     rcases hX.2.2 with ⟨h1, hj⟩ | ⟨h1, p, hp, hj⟩
     · exact .inl ⟨h1.drew, hJ _ _ _ hj (Same.of_below ((Below.refl X.heap.size X).drew) (fun i _ hi => hi))⟩
     · exact .inr ⟨h1.drew, p, hp, hJx _ _ _ hj (Same.of_below ((Below.refl X.heap.size X).drew) (fun i _ hi => hi))⟩⟩
   have HS := hid (callsIn_wide.1 (say_any J Jx D xs B l bw hJ hJx hD hY pre (0, v.t) b o X.drew hpre hAd hlt hc0 3))
   clear hAd
   refine wp_region_ord [(0, true), (1, true), (2, true), (3, true), (4, false)] (fun W' => Bx W' (B + 2) #[.func (.func 109) #[] #[.pointer (some ⟨B + 1, 0, none⟩), .pointer (some ⟨B, 0, none⟩)]]) (by kernel_rfl) (by kernel_rfl) (by intro d v c a w h; cases d <;> exact h) (hx2.drew) ?_
   repeat ((first | refine ord_skip rfl rfl ?_ | (refine ord_q rfl rfl ?_; apply Exists.intro; refine ⟨fun wS hS => ?_, ?_⟩; (go_simp; try with_reducible rfl))); simp only [Act.put, List.setIfInBounds_toArray, List.set_cons_zero, List.set_cons_succ])
   refine ord_l rfl rfl (fun K hK => ?_)
   go_simp
   refine HS.out.mono ?_
   rintro e Y ⟨⟨r, rfl⟩, hA, hk⟩
   refine hK _ _ hA.2.1 ?_
   clear hK K
   refine ord_nil ?_
   go_wp2_with fail
   go_end0
   exact ⟨⟨_, rfl⟩, hA, (KeepOn.of_below ((Below.refl X.heap.size X).drew) (fun i _ hi => hi)).trans hk⟩
 · have hv : verN v = [] := by simp [verN, hk]
   rw [hv, List.append_nil]
   go_enter Tryz.func110, Tryz.ntmps110
   go_wp2_with fail
   go_end0
   exact ⟨⟨_, rfl⟩, hX, KeepOn.refl _⟩
end Yd
