import Derived.Test.YthdpangjphphjaaGreatDoorDigit
import Derived.Test.YthdpangjphphjaaGreatDoorCheck
import Derived.Test.YthdpangjphphjaaGreatDoorProg
import Derived.Test.YthdpangjphphjaaGreatDoorOwnPut
import Derived.Test.YthdpangjphphjaaGreatDoorShelf
import Derived.Lib.Join
set_option maxRecDepth 200000
set_option maxHeartbeats 8000000
namespace Yd
open Go Go.RowKit Go.Proofs

theorem cat2 (a b : Bs) : (⟨a.toArray⟩ ++ ⟨b.toArray⟩ : ByteArray) = ⟨(a ++ b).toArray⟩ := by
 apply ByteArray.ext; simp
theorem cat3 (a b c : Bs) : (⟨a.toArray⟩ ++ ⟨b.toArray⟩ ++ ⟨c.toArray⟩ : ByteArray) = ⟨(a ++ (b ++ c)).toArray⟩ := by
 rw [cat2, cat2, List.append_assoc]
def toldT (t : To) : Bs := if t.k = 0 then [45] else t.name ++ 46 :: digs t.k.toNat

theorem line_told (t : To) (h0 : 0 ≤ t.k) (h9 : t.k ≤ 999) (hn : t.name.length ≤ 100000) (w : World) : Calls Tryz.prog 45 #[valTo t] w (Ret (.string ⟨(toldT t).toArray⟩) w) := by
 obtain ⟨n, k⟩ := t
 simp only at h0 h9 hn
 obtain ⟨m, rfl⟩ : ∃ m : Nat, k = m := ⟨k.toNat, by omega⟩
 by_cases hm : m = 0
 · subst hm
   go_enter Tryz.func45, Tryz.ntmps45
   go_wp2_with fail
   go_ret
   exact ⟨rfl, belowA (Below.refl _ _) _⟩
 · have hk : ((m : Int) == 0) = false := beq_eq_false_iff_ne.2 (by omega)
   have hq : toldT ⟨n, m⟩ = n ++ 46 :: digs m := by
     unfold toldT
     rw [if_neg (by simpa using hm), Int.toNat_natCast]
   rw [hq]
   have HD := fun W => hid (digit_Text m (by omega) (by omega) W)
   have HB := hid (belowA (Below.refl w.heap.size w) (.cells #[.string ⟨n.toArray⟩, .int .i64 m] 67))
   have HX := hid (Bx.new w #[.string ⟨n.toArray⟩, .int .i64 m] 67)
   have hd3 : (digs m).length ≤ 3 := digs_len 3 m (by omega)
   have hN1 : ¬ (9223372036854775807 < n.length + 1) := by omega
   have hN2 : ¬ (9223372036854775807 < n.length + 1 + (digs m).length) := by omega
   clear hq h0 h9
   go_enter Tryz.func45, Tryz.ntmps45
   go_wp2_with fail
   refine wp_region_ordC 8 [(0, 0), (1, 0), (2, 0), (3, 0), (4, 0), (5, 2), (6, 0), (7, 0)] (fun _ => True) (fun W' => W'.cell? ⟨w.heap.size, 0, none⟩ = some (.string ⟨n.toArray⟩) ∧ W'.cell? ⟨w.heap.size, 1, none⟩ = some (.int .i64 m)) (by kernel_rfl) (by kernel_rfl) (trivial) (⟨HX.out.1 0, HX.out.1 1⟩) ?_
   repeat ((first | refine ordC_skip rfl rfl ?_ | refine ordC_skip1 rfl rfl ?_ | ((first | refine ordC_q rfl rfl ?_ | refine ordC_p rfl rfl ?_); apply Exists.intro; refine ⟨fun wS hS => ?_, ?_⟩; (go_simp; try with_reducible rfl))); simp only [Act.put, List.setIfInBounds_toArray, List.set_cons_zero, List.set_cons_succ])
   refine ordC_l rfl rfl (fun K hK => ?_)
   go_simp
   refine (HD _).out.mono ?_
   rintro en w2 ⟨rfl, hb2⟩
   have HB2 := hid (HB.out.drew.trans (hb2.mono HB.out.drew.size))
   refine hK _ _ ⟨trivial, (HX.out.drew.keep hb2).1 0, (HX.out.drew.keep hb2).1 1⟩ ?_
   clear hK K hb2
   repeat ((first | refine ordC_skip rfl rfl ?_ | refine ordC_skip1 rfl rfl ?_ | ((first | refine ordC_q rfl rfl ?_ | refine ordC_p rfl rfl ?_); apply Exists.intro; refine ⟨fun wS hS => ?_, ?_⟩; (go_simp; try with_reducible rfl))); simp only [Act.put, List.setIfInBounds_toArray, List.set_cons_zero, List.set_cons_succ])
   refine ordC_nil ?_
   go_wp2_with fail
   go_ret
   exact ⟨congrArg (fun s => Ending.returned (.string s)) (cat3 n [46] (digs m)), HB2.out⟩
end Yd


namespace Yd
open Go Go.RowKit Go.Proofs

structure ScanAt (h : HC) (l : LnC) (w0 w : World) (Lk : LnC) (ns : List Bs) (vs : List To) (X : World) : Prop where
 b0 : Bx X w.heap.size (cellsH h)
 b1 : Bx X (w.heap.size + 1) (cellsLn Lk)
 b3 : Bx X (w.heap.size + 3) #[.int .i64 0, .slice none 0 0, .int .i64 0, .slice none 0 0, .bool false, .int .i64 0]
 on : Own X w0.heap.size 9 1 encStr (.slice Lk.na Lk.nn Lk.nc) ns
 ov : Own X w0.heap.size 67 2 encTo (.slice Lk.va Lk.vn Lk.vc) vs
 fn : ∀ g, (Value.slice Lk.na Lk.nn Lk.nc).ownBlock = some g → g < w.heap.size ∨ w.heap.size + 4 ≤ g
 fv : ∀ g, (Value.slice Lk.va Lk.vn Lk.vc).ownBlock = some g → g < w.heap.size ∨ w.heap.size + 4 ≤ g
 be : Below w0.heap.size w0 X
 kw : Kept w l X
 gr : Grew w l Lk
 sz : w.heap.size + 4 ≤ X.heap.size
end Yd


namespace Yd
open Go Go.RowKit Go.Proofs

theorem Own.strs {X : World} {g : Nat} (h : X.heap.size = g) (l : List Bs) (hl : l.length ≤ maxLen) : Own (X.alloc (.cells (l.map (fun s => Value.string ⟨s.toArray⟩)).toArray 9)) g 9 1 encStr (.slice (some ⟨g, 0, none⟩) l.length l.length) l := by
 subst h
 exact Own.new (hc := cInsStr) X X.heap.size 9 _ l (Nat.le_refl _) (by
   show l.map (fun s => Value.string ⟨s.toArray⟩) = l.flatMap encStr
   induction l with
   | nil => rfl
   | cons a l ih => rw [List.map_cons, List.flatMap_cons, ih (by simp at hl; omega)]; rfl) hl

end Yd


namespace Yd
open Go Go.RowKit Go.Proofs

def guardsN (b : Int) : Nat → List Bs
 | 0 => []
 | j + 1 => guardsN b j ++ if b / 2 ^ j % 2 = 1 then [guardT j] else []
def guardsW (b : Int) : List Bs := guardsN b 4
theorem guardsN_len (b : Int) : ∀ j, (guardsN b j).length ≤ j
 | 0 => Nat.le_refl _
 | j + 1 => by
   have := guardsN_len b j
   simp only [guardsN, List.length_append]
   split <;> simp <;> omega
theorem guardsN_mem {b : Int} {x : Bs} : ∀ {j : Nat}, x ∈ guardsN b j → ∃ i, x = guardT i
 | 0, h => by simp [guardsN] at h
 | j + 1, h => by
   simp only [guardsN, List.mem_append] at h
   rcases h with h | h
   · exact guardsN_mem h
   · split at h
     · exact ⟨j, by simpa using h⟩
     · cases h
def wordsS (s : LnS) : List Bs :=
 let k := s.kind.toNat
 let fn := (formN k).toNat
 let r := formR k
 formV k :: s.names.take fn ++
   ((if r = 108 then [levelT s.lvl.toNat] else if r = 118 then s.vers.take 1 |>.map toldT else if r = 103 then guardsW s.bits else if r = 109 ∧ s.first = true then [[45]] else []) ++
    if r = 115 then (s.names.drop fn).zip s.vers |>.flatMap (fun p => [p.1, toldT p.2]) else s.names.drop fn)
def textS (s : LnS) : Bs := Lib.join (wordsS s) [32] ++ [10]
theorem Row.takeN {α : Type} {enc : α → List Value} {w : World} {k : Nat} {b o n c : Nat} {xs : List α} (h : Row w k enc (some ⟨b, o, none⟩) n c xs) {m c' : Nat} (hm : m ≤ n) (hc : m ≤ c') : Row w k enc (some ⟨b, o, none⟩) m c' (xs.take m) := by
 refine ⟨by rw [List.length_take, h.len]; omega, hc, Nat.le_trans hm h.le, fun h => (by cases h), fun i x hx => ?_⟩
 rw [List.getElem?_take] at hx
 split at hx
 · exact h.2.2.2.2 i x hx
 · cases hx
theorem Own.len {α : Type} {enc : α → List Value} {w : World} {B k n c : Nat} {E : TypeId} {a : Option Addr} {xs : List α} (h : Own w B E k enc (.slice a n c) xs) : n = xs.length := by
 obtain ⟨a', c', e, _⟩ := h.shape
 injection e
structure TextAt (w w1 : World) (c0 c1 : Array Value) (X : World) (a : Option Addr) (n c : Nat) (ws : List Bs) : Prop where
 x : Bx X w.heap.size c0
 y : Bx X w1.heap.size c1
 o : Own X (w1.heap.size + 1) 9 1 encStr (.slice a n c) ws
 b : Below w.heap.size w X
 s : w1.heap.size + 1 ≤ X.heap.size
theorem TextAt.snoc {w w1 X X' : World} {c0 c1 : Array Value} {a a' : Option Addr} {n c c' : Nat} {ws : List Bs} {s : Bs} (h : TextAt w w1 c0 c1 X a n c ws) (hlt : w.heap.size < w1.heap.size)
   (hown : Own X' (w1.heap.size + 1) 9 1 encStr (.slice a' (n + 1) c') (ws ++ [s])) (hg : (X.alloc (.cells #[.string ⟨s.toArray⟩] 9)).grownBy X' (Value.slice a n c).ownBlock) : TextAt w w1 c0 c1 X' a' (n + 1) c' (ws ++ [s]) :=
 ⟨(h.x.alloc _).grown hg (fun e => by have := (h.o.lt _ e).1; omega), (h.y.alloc _).grown hg (fun e => by have := (h.o.lt _ e).1; omega), hown,
   below_app (h.b.alloc h.b.size _) (h.o.alloc _) (by omega) (by have := h.s; simp; omega) hg, by have := hg.size; have := h.s; simp at *; omega⟩
theorem TextAt.call {w w1 X X' : World} {c0 c1 : Array Value} {a : Option Addr} {n c : Nat} {ws : List Bs} (h : TextAt w w1 c0 c1 X a n c ws) (hb : Below X.heap.size X X') : TextAt w w1 c0 c1 X' a n c ws :=
 ⟨h.x.keep hb, h.y.keep hb, h.o.below hb rfl, h.b.trans (hb.mono h.b.size), Nat.le_trans h.s hb.size⟩
theorem join_len (ws : List Bs) (h : ∀ x ∈ ws, x.length ≤ 40) : (Lib.join ws [32]).length ≤ 41 * ws.length := by
 show ([32].intercalate ws : Bs).length ≤ _
 induction ws with
 | nil => simp
 | cons a l ih =>
   have h1 := h a List.mem_cons_self
   have h2 := ih (fun x hx => h x (List.mem_cons_of_mem _ hx))
   cases l with
   | nil => simp; omega
   | cons b r =>
     rw [List.intercalate_cons_cons]
     simp only [List.length_append, List.length_cons, List.length_nil] at *
     omega
theorem join_any (a : Option Addr) (n c : Nat) (ws : List Bs) (w : World) (hr : Row w 1 encStr a n c ws) (hn : 0 < n) (hw : ∀ x ∈ ws, x.length ≤ 40) (hl : n ≤ 100000) :
   Calls Tryz.prog 46 #[.slice a n c, .string ⟨#[32]⟩] w (Ret (.string ⟨(Lib.join ws [32]).toArray⟩) w) := by
 obtain ⟨_, b, o, _, rfl, hc⟩ := hr.at_ hn
 have hlen := hr.len
 subst hlen
 have hm : (ws.map (fun s => (⟨s.toArray⟩ : ByteArray))).map (·.data.toList) = ws := by
   rw [List.map_map]
   conv => rhs; rw [← List.map_id ws]
   exact List.map_congr_left (fun x _ => rfl)
 have hj := join_len ws hw
 have hbk : b < w.heap.size := by
   have := hc 0 _ rfl
   exact cell_lt this
 have := Tryz.strings_Join b o c (ws.map (fun s => (⟨s.toArray⟩ : ByteArray))) ⟨#[32]⟩ w (fun j x hx => by
   rw [List.getElem?_map] at hx
   cases hy : ws[j]? with
   | none => rw [hy] at hx; cases hx
   | some y =>
     rw [hy] at hx
     simp only [Option.map_some, Option.some.injEq] at hx
     subst hx
     obtain ⟨_, b', o', hx', hab, hc'⟩ := hr.at_ (i := j) (List.getElem?_eq_some_iff.1 hy).1
     cases hab
     rw [hy] at hx'; cases hx'
     have := hc' 0 _ rfl
     rwa [Nat.mul_one, Nat.add_zero] at this) hbk (by rw [List.length_map]; omega) (by rw [List.length_map]; exact hr.cap) (by rw [hm]; show (Lib.join ws [32]).length ≤ _; omega)
 rw [hm, List.length_map] at this
 exact this
theorem word_len {s : Bs} (h : wordB ⟨s.toArray⟩ = true) : s.length ≤ 24 := by
 simp only [wordB, Bool.and_eq_true, decide_eq_true_eq] at h
 have := h.1.1.2
 simp only [ByteArray.size, List.size_toArray] at this
 omega
theorem told_len {t : To} (h : toOk t) : (toldT t).length ≤ 40 := by
 unfold toldT
 rcases h with rfl | ⟨h1, h2, h3⟩
 · decide
 · rw [if_neg (by omega)]
   have := word_len h1
   have := digs_len 3 t.k.toNat (by omega)
   simp; omega
theorem toOk_b {t : To} (h : toOk t) : 0 ≤ t.k ∧ t.k ≤ 999 ∧ t.name.length ≤ 100000 := by
 rcases h with rfl | ⟨h1, h2, h3⟩
 · decide
 · have := word_len h1
   exact ⟨by omega, h3, by omega⟩
theorem level_len (i : Nat) : (levelT i).length ≤ 40 := by unfold levelT; split <;> decide
theorem form_len (i : Nat) : (formV i).length ≤ 40 := by unfold formV; split <;> decide
theorem guard_len (i : Nat) : (guardT i).length ≤ 40 := by unfold guardT; split <;> decide
theorem words_len (s : LnS) (hn : ∀ x ∈ s.names, wordB ⟨x.toArray⟩ = true) (hv : ∀ t ∈ s.vers, toOk t) : ∀ x ∈ wordsS s, x.length ≤ 40 := by
 have hn' : ∀ x ∈ s.names, x.length ≤ 40 := fun x hx => by have := word_len (hn x hx); omega
 intro x hx
 simp only [wordsS, List.cons_append, List.mem_cons, List.mem_append] at hx
 rcases hx with rfl | hx | hx | hx
 · exact form_len _
 · exact hn' x (List.mem_of_mem_take hx)
 · split at hx
   · simp only [List.mem_singleton] at hx; subst hx; exact level_len _
   · split at hx
     · obtain ⟨t, ht, rfl⟩ := List.mem_map.1 hx
       exact told_len (hv t (List.mem_of_mem_take ht))
     · split at hx
       · obtain ⟨i, rfl⟩ := guardsN_mem hx
         exact guard_len _
       · split at hx
         · simp only [List.mem_singleton] at hx; subst hx; decide
         · cases hx
 · split at hx
   · obtain ⟨p, hp, hx⟩ := List.mem_flatMap.1 hx
     obtain ⟨h1, h2⟩ := List.of_mem_zip hp
     simp only [List.mem_cons, List.not_mem_nil, or_false] at hx
     rcases hx with rfl | rfl
     · exact hn' _ (List.mem_of_mem_drop h1)
     · exact told_len (hv _ h2)
   · exact hn' x (List.mem_of_mem_drop hx)
theorem index_g0 (W : World) : (Instr.index 80 (.agg #[.string ⟨#[114, 121, 119]⟩, .string ⟨#[109, 114]⟩, .string ⟨#[109, 119]⟩, .string ⟨#[119, 102, 114]⟩]) (.int .i64 0)).run Tryz.prog W = .ok (.string ⟨#[114, 121, 119]⟩) W := by kernel_rfl
theorem index_g1 (W : World) : (Instr.index 80 (.agg #[.string ⟨#[114, 121, 119]⟩, .string ⟨#[109, 114]⟩, .string ⟨#[109, 119]⟩, .string ⟨#[119, 102, 114]⟩]) (.int .i64 1)).run Tryz.prog W = .ok (.string ⟨#[109, 114]⟩) W := by kernel_rfl
theorem index_g2 (W : World) : (Instr.index 80 (.agg #[.string ⟨#[114, 121, 119]⟩, .string ⟨#[109, 114]⟩, .string ⟨#[109, 119]⟩, .string ⟨#[119, 102, 114]⟩]) (.int .i64 2)).run Tryz.prog W = .ok (.string ⟨#[109, 119]⟩) W := by kernel_rfl
theorem index_g3 (W : World) : (Instr.index 80 (.agg #[.string ⟨#[114, 121, 119]⟩, .string ⟨#[109, 114]⟩, .string ⟨#[109, 119]⟩, .string ⟨#[119, 102, 114]⟩]) (.int .i64 3)).run Tryz.prog W = .ok (.string ⟨#[119, 102, 114]⟩) W := by kernel_rfl
theorem bits_tab : ∀ b : Fin 16, ∀ j : Fin 4, (Go.bits .and .i64 ((b.val : Int) / 2 ^ j.val) 1 == 1) = decide ((b.val : Int) / 2 ^ j.val % 2 = 1) := by decide
theorem bits_one (b j : Nat) (hb : b ≤ 15) (hj : j < 4) : (Go.bits .and .i64 ((b : Int) / 2 ^ j) 1 == 1) = decide ((b : Int) / 2 ^ j % 2 = 1) := bits_tab ⟨b, by omega⟩ ⟨j, hj⟩
end Yd


namespace Yd
open Go Go.RowKit Go.Proofs

def LnIn (w : World) (l : LnC) (s : LnS) : Prop :=
 (l.kind = s.kind ∧ l.lvl = s.lvl ∧ l.first = s.first ∧ l.bits = s.bits) ∧ Row w 1 encStr l.na l.nn l.nc s.names ∧ Row w 2 encTo l.va l.vn l.vc s.vers
theorem LnIn.below {w w' : World} {l : LnC} {s : LnS} (h : LnIn w l s) (hb : Below w.heap.size w w') : LnIn w' l s := ⟨h.1, h.2.1.below hb rfl, h.2.2.below hb rfl⟩
end Yd


namespace Yd
open Go Go.RowKit Go.Proofs Go.ChangeShapes Go.WideShapes Go.ChangeAt
open Go.Proofs.YthdpangjphphjaaGreatDoor.Rows (uptoBulk uptoBulkAll)

section
variable {H : Type} {enc : TypeId × Value → H} {w : World} {base : Nat} {spare : Nat → Bool} {held : Bool} {N : Nat}
end
end Yd


namespace Yd
open Go
section
variable {P : Program} {ops : Array Oper} {Q : Exit → Act → World → Prop} {R S : World → Prop} {cut : Nat} {RP : List PanicEntry → World → Prop} {D : List Deferred}
def laxQ (Q : Exit → Act → World → Prop) (D : List Deferred) (RP : List PanicEntry → World → Prop) : Exit → Act → World → Prop
 | .outgrown, _, _ => False
 | .panic c, a, w => a.defers = D ∧ RP c w
 | .normal, a, w => Q .normal a w
 | .ret, a, w => Q .ret a w
 | .exit id, a, w => Q (.exit id) a w
 | .goto t, a, w => Q (.goto t) a w
theorem laxQ_of (hP : ∀ c a w, a.defers = D → RP c w → Q (.panic c) a w) (e : Exit) (a : Act) (w : World) (h : laxQ Q D RP e a w) : Q e a w := by
 cases e <;> first | exact h | exact h.elim | exact hP _ _ _ h.1 h.2
theorem laxQ_p : ∀ d v c a w, laxQ Q D RP (.panic c) (Act.put a d v) w → laxQ Q D RP (.panic c) a w := fun d _ _ _ _ h => by cases d <;> exact h
theorem wp_region_ordP {id : Nat} {a : Act} {w : World} {l : List Oper} (cut : Nat) (ord : List (Nat × Nat)) (R S : World → Prop) (RP : List PanicEntry → World → Prop) (hm : P.follows .mixedOrders = true)
   (hB : (Region.noSelect l.toArray && decide (ord.length = l.length) && okOrdC .any l.toArray cut ord true (Array.replicate l.toArray.size false)) = true)
   (hP : ∀ c a' w', a'.defers = a.defers → RP c w' → Q (.panic c) a' w')
   (hR : R w.drew) (hS : S w.drew) (h : wpOrdC P l.toArray (laxQ Q a.defers RP) R S cut ord a w.drew) : (Code.region id l.toArray true).wp P Q a w := by
 simp only [Bool.and_eq_true, decide_eq_true_eq] at hB
 obtain ⟨⟨hs, hl⟩, ho⟩ := hB
 refine wp_mono (Q := laxQ Q a.defers RP) (wp_region_any hm (wpAny_of_T (T := ThenS cut R S) _ _ _ _ ?_)) (laxQ_of hP)
 have := wpAnyT_of_ord (md := .any) (Q := laxQ Q a.defers RP) hs laxQ_p ord true _ a _ ho hR (fun _ => hS) h
 rw [hl] at this
 simpa using this
theorem ordP_nil {a : Act} {w : World} (h : Q .normal a w) : wpOrdC P ops (laxQ Q D RP) R S cut [] a w := h
end
end Yd
