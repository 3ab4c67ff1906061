import Derived.Test.YthkpjdgmpjhhmaaGreatDoorLineK
import Derived.Test.YthkpjdgmpjhhmaaGreatDoorDigitT
import Derived.Test.YthkpjdgmpjhhmaaGreatDoorLinesL
import Derived.Test.YthkpjdgmpjhhmaaGreatDoorShelf
import Derived.Lib.Join
import Derived.Test.YthkpjdgmpjhhmaaGreatDoorProg
set_option maxRecDepth 200000
set_option maxHeartbeats 8000000
namespace Yd
open Go Go.RowKit Go.Proofs

def guardsN (b : Int) : Nat → List Bs
 | 0 => []
 | j + 1 => guardsN b j ++ if b / 2 ^ j % 2 = 1 then [guardT j] else []
def guardsW (b : Int) : List Bs := guardsN b 4
theorem guardsN_len (b : Int) : ∀ j, (guardsN b j).length ≤ j
 | 0 => Nat.le_refl _
 | j + 1 => by
   have := guardsN_len b j
   simp only [guardsN, List.length_append]
   split <;> simp <;> omega
theorem guardsN_mem {b : Int} {x : Bs} : ∀ {j : Nat}, x ∈ guardsN b j → ∃ i, x = guardT i
 | 0, h => by simp [guardsN] at h
 | j + 1, h => by
   simp only [guardsN, List.mem_append] at h
   rcases h with h | h
   · exact guardsN_mem h
   · split at h
     · exact ⟨j, by simpa using h⟩
     · cases h
def wordsS (s : LnS) : List Bs :=
 let k := s.kind.toNat
 let fn := (formN k).toNat
 let r := formR k
 formV k :: s.names.take fn ++
   ((if r = 108 then [levelT s.lvl.toNat] else if r = 118 then s.vers.take 1 |>.map toldT else if r = 103 then guardsW s.bits else if r = 109 ∧ s.first = true then [[45]] else []) ++
    if r = 115 then (s.names.drop fn).zip s.vers |>.flatMap (fun p => [p.1, toldT p.2]) else s.names.drop fn)
def textS (s : LnS) : Bs := Lib.join (wordsS s) [32] ++ [10]
theorem Row.takeN {α : Type} {enc : α → List Value} {w : World} {k : Nat} {b o n c : Nat} {xs : List α} (h : Row w k enc (some ⟨b, o, none⟩) n c xs) {m c' : Nat} (hm : m ≤ n) (hc : m ≤ c') : Row w k enc (some ⟨b, o, none⟩) m c' (xs.take m) := by
 refine ⟨by rw [List.length_take, h.len]; omega, hc, Nat.le_trans hm h.le, fun h => (by cases h), fun i x hx => ?_⟩
 rw [List.getElem?_take] at hx
 split at hx
 · exact h.2.2.2.2 i x hx
 · cases hx
theorem Own.len {α : Type} {enc : α → List Value} {w : World} {B k n c : Nat} {E : TypeId} {a : Option Addr} {xs : List α} (h : Own w B E k enc (.slice a n c) xs) : n = xs.length := by
 obtain ⟨a', c', e, _⟩ := h.shape
 injection e
structure TextAt (w w1 : World) (c0 c1 : Array Value) (X : World) (a : Option Addr) (n c : Nat) (ws : List Bs) : Prop where
 x : Bx X w.heap.size c0
 y : Bx X w1.heap.size c1
 o : Own X (w1.heap.size + 1) 9 1 encStr (.slice a n c) ws
 b : Below w.heap.size w X
 s : w1.heap.size + 1 ≤ X.heap.size
theorem TextAt.snoc {w w1 X X' : World} {c0 c1 : Array Value} {a a' : Option Addr} {n c c' : Nat} {ws : List Bs} {s : Bs} (h : TextAt w w1 c0 c1 X a n c ws) (hlt : w.heap.size < w1.heap.size)
   (hown : Own X' (w1.heap.size + 1) 9 1 encStr (.slice a' (n + 1) c') (ws ++ [s])) (hg : (X.alloc (.cells #[.string ⟨s.toArray⟩] 9)).grownBy X' (Value.slice a n c).ownBlock) : TextAt w w1 c0 c1 X' a' (n + 1) c' (ws ++ [s]) :=
 ⟨(h.x.alloc _).grown hg (fun e => by have := (h.o.lt _ e).1; omega), (h.y.alloc _).grown hg (fun e => by have := (h.o.lt _ e).1; omega), hown,
   below_app (h.b.alloc h.b.size _) (h.o.alloc _) (by omega) (by have := h.s; simp; omega) hg, by have := hg.size; have := h.s; simp at *; omega⟩
theorem TextAt.call {w w1 X X' : World} {c0 c1 : Array Value} {a : Option Addr} {n c : Nat} {ws : List Bs} (h : TextAt w w1 c0 c1 X a n c ws) (hb : Below X.heap.size X X') : TextAt w w1 c0 c1 X' a n c ws :=
 ⟨h.x.keep hb, h.y.keep hb, h.o.below hb rfl, h.b.trans (hb.mono h.b.size), Nat.le_trans h.s hb.size⟩
theorem join_len (ws : List Bs) (h : ∀ x ∈ ws, x.length ≤ 40) : (Lib.join ws [32]).length ≤ 41 * ws.length := by
 show ([32].intercalate ws : Bs).length ≤ _
 induction ws with
 | nil => simp
 | cons a l ih =>
   have h1 := h a List.mem_cons_self
   have h2 := ih (fun x hx => h x (List.mem_cons_of_mem _ hx))
   cases l with
   | nil => simp; omega
   | cons b r =>
     rw [List.intercalate_cons_cons]
     simp only [List.length_append, List.length_cons, List.length_nil] at *
     omega
theorem join_any (a : Option Addr) (n c : Nat) (ws : List Bs) (w : World) (hr : Row w 1 encStr a n c ws) (hn : 0 < n) (hw : ∀ x ∈ ws, x.length ≤ 40) (hl : n ≤ 100000) :
   Calls Tryz.prog 38 #[.slice a n c, .string ⟨#[32]⟩] w (Ret (.string ⟨(Lib.join ws [32]).toArray⟩) w) := by
 obtain ⟨_, b, o, _, rfl, hc⟩ := hr.at_ hn
 have hlen := hr.len
 subst hlen
 have hm : (ws.map (fun s => (⟨s.toArray⟩ : ByteArray))).map (·.data.toList) = ws := by
   rw [List.map_map]
   conv => rhs; rw [← List.map_id ws]
   exact List.map_congr_left (fun x _ => rfl)
 have hj := join_len ws hw
 have hbk : b < w.heap.size := by
   have := hc 0 _ rfl
   exact cell_lt this
 have := Tryz.strings_Join b o c (ws.map (fun s => (⟨s.toArray⟩ : ByteArray))) ⟨#[32]⟩ w (fun j x hx => by
   rw [List.getElem?_map] at hx
   cases hy : ws[j]? with
   | none => rw [hy] at hx; cases hx
   | some y =>
     rw [hy] at hx
     simp only [Option.map_some, Option.some.injEq] at hx
     subst hx
     obtain ⟨_, b', o', hx', hab, hc'⟩ := hr.at_ (i := j) (List.getElem?_eq_some_iff.1 hy).1
     cases hab
     rw [hy] at hx'; cases hx'
     have := hc' 0 _ rfl
     rwa [Nat.mul_one, Nat.add_zero] at this) hbk (by rw [List.length_map]; omega) (by rw [List.length_map]; exact hr.cap) (by rw [hm]; show (Lib.join ws [32]).length ≤ _; omega)
 rw [hm, List.length_map] at this
 exact this
theorem word_len {s : Bs} (h : wordB ⟨s.toArray⟩ = true) : s.length ≤ 24 := by
 simp only [wordB, Bool.and_eq_true, decide_eq_true_eq] at h
 have := h.1.1.2
 simp only [ByteArray.size, List.size_toArray] at this
 omega
theorem told_len {t : To} (h : toOk t) : (toldT t).length ≤ 40 := by
 unfold toldT
 rcases h with rfl | ⟨h1, h2, h3⟩
 · decide
 · rw [if_neg (by omega)]
   have := word_len h1
   have := digs_len 3 t.k.toNat (by omega)
   simp; omega
theorem toOk_b {t : To} (h : toOk t) : 0 ≤ t.k ∧ t.k ≤ 999 ∧ t.name.length ≤ 100000 := by
 rcases h with rfl | ⟨h1, h2, h3⟩
 · decide
 · have := word_len h1
   exact ⟨by omega, h3, by omega⟩
theorem level_len (i : Nat) : (levelT i).length ≤ 40 := by unfold levelT; split <;> decide
theorem form_len (i : Nat) : (formV i).length ≤ 40 := by unfold formV; split <;> decide
theorem guard_len (i : Nat) : (guardT i).length ≤ 40 := by unfold guardT; split <;> decide
theorem words_len (s : LnS) (hn : ∀ x ∈ s.names, wordB ⟨x.toArray⟩ = true) (hv : ∀ t ∈ s.vers, toOk t) : ∀ x ∈ wordsS s, x.length ≤ 40 := by
 have hn' : ∀ x ∈ s.names, x.length ≤ 40 := fun x hx => by have := word_len (hn x hx); omega
 intro x hx
 simp only [wordsS, List.cons_append, List.mem_cons, List.mem_append] at hx
 rcases hx with rfl | hx | hx | hx
 · exact form_len _
 · exact hn' x (List.mem_of_mem_take hx)
 · split at hx
   · simp only [List.mem_singleton] at hx; subst hx; exact level_len _
   · split at hx
     · obtain ⟨t, ht, rfl⟩ := List.mem_map.1 hx
       exact told_len (hv t (List.mem_of_mem_take ht))
     · split at hx
       · obtain ⟨i, rfl⟩ := guardsN_mem hx
         exact guard_len _
       · split at hx
         · simp only [List.mem_singleton] at hx; subst hx; decide
         · cases hx
 · split at hx
   · obtain ⟨p, hp, hx⟩ := List.mem_flatMap.1 hx
     obtain ⟨h1, h2⟩ := List.of_mem_zip hp
     simp only [List.mem_cons, List.not_mem_nil, or_false] at hx
     rcases hx with rfl | rfl
     · exact hn' _ (List.mem_of_mem_drop h1)
     · exact told_len (hv _ h2)
   · exact hn' x (List.mem_of_mem_drop hx)
theorem index_g0 (W : World) : (Instr.index 99 (.agg #[.string ⟨#[114, 121, 119]⟩, .string ⟨#[109, 114]⟩, .string ⟨#[109, 119]⟩, .string ⟨#[119, 102, 114]⟩]) (.int .i64 0)).run Tryz.prog W = .ok (.string ⟨#[114, 121, 119]⟩) W := by kernel_rfl
theorem index_g1 (W : World) : (Instr.index 99 (.agg #[.string ⟨#[114, 121, 119]⟩, .string ⟨#[109, 114]⟩, .string ⟨#[109, 119]⟩, .string ⟨#[119, 102, 114]⟩]) (.int .i64 1)).run Tryz.prog W = .ok (.string ⟨#[109, 114]⟩) W := by kernel_rfl
theorem index_g2 (W : World) : (Instr.index 99 (.agg #[.string ⟨#[114, 121, 119]⟩, .string ⟨#[109, 114]⟩, .string ⟨#[109, 119]⟩, .string ⟨#[119, 102, 114]⟩]) (.int .i64 2)).run Tryz.prog W = .ok (.string ⟨#[109, 119]⟩) W := by kernel_rfl
theorem index_g3 (W : World) : (Instr.index 99 (.agg #[.string ⟨#[114, 121, 119]⟩, .string ⟨#[109, 114]⟩, .string ⟨#[109, 119]⟩, .string ⟨#[119, 102, 114]⟩]) (.int .i64 3)).run Tryz.prog W = .ok (.string ⟨#[119, 102, 114]⟩) W := by kernel_rfl
theorem bits_tab : ∀ b : Fin 16, ∀ j : Fin 4, (Go.bits .and .i64 ((b.val : Int) / 2 ^ j.val) 1 == 1) = decide ((b.val : Int) / 2 ^ j.val % 2 = 1) := by decide
theorem bits_one (b j : Nat) (hb : b ≤ 15) (hj : j < 4) : (Go.bits .and .i64 ((b : Int) / 2 ^ j) 1 == 1) = decide ((b : Int) / 2 ^ j % 2 = 1) := bits_tab ⟨b, by omega⟩ ⟨j, hj⟩
end Yd
