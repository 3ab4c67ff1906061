import Derived.Test.YthdpangjphphjaaGreatDoorLines
import Derived.Test.YthdpangjphphjaaGreatDoorRdW
import Derived.Test.YthdpangjphphjaaGreatDoorShelf
import Derived.Lib.Join
import Derived.Test.YthdpangjphphjaaGreatDoorProg
set_option maxRecDepth 200000
set_option maxHeartbeats 8000000
namespace Yd
open Go Go.RowKit Go.Proofs

def guardsN (b : Int) : Nat → List Bs
 | 0 => []
 | j + 1 => guardsN b j ++ if b / 2 ^ j % 2 = 1 then [guardT j] else []
def guardsW (b : Int) : List Bs := guardsN b 4
theorem guardsN_len (b : Int) : ∀ j, (guardsN b j).length ≤ j
 | 0 => Nat.le_refl _
 | j + 1 => by
   have := guardsN_len b j
   simp only [guardsN, List.length_append]
   split <;> simp <;> omega
theorem guardsN_mem {b : Int} {x : Bs} : ∀ {j : Nat}, x ∈ guardsN b j → ∃ i, x = guardT i
 | 0, h => by simp [guardsN] at h
 | j + 1, h => by
   simp only [guardsN, List.mem_append] at h
   rcases h with h | h
   · exact guardsN_mem h
   · split at h
     · exact ⟨j, by simpa using h⟩
     · cases h
def wordsS (s : LnS) : List Bs :=
 let k := s.kind.toNat
 let fn := (formN k).toNat
 let r := formR k
 formV k :: s.names.take fn ++
   ((if r = 108 then [levelT s.lvl.toNat] else if r = 118 then s.vers.take 1 |>.map toldT else if r = 103 then guardsW s.bits else if r = 109 ∧ s.first = true then [[45]] else []) ++
    if r = 115 then (s.names.drop fn).zip s.vers |>.flatMap (fun p => [p.1, toldT p.2]) else s.names.drop fn)
def textS (s : LnS) : Bs := Lib.join (wordsS s) [32] ++ [10]
theorem Row.takeN {α : Type} {enc : α → List Value} {w : World} {k : Nat} {b o n c : Nat} {xs : List α} (h : Row w k enc (some ⟨b, o, none⟩) n c xs) {m c' : Nat} (hm : m ≤ n) (hc : m ≤ c') : Row w k enc (some ⟨b, o, none⟩) m c' (xs.take m) := by
 refine ⟨by rw [List.length_take, h.len]; omega, hc, Nat.le_trans hm h.le, fun h => (by cases h), fun i x hx => ?_⟩
 rw [List.getElem?_take] at hx
 split at hx
 · exact h.2.2.2.2 i x hx
 · cases hx
theorem Own.len {α : Type} {enc : α → List Value} {w : World} {B k n c : Nat} {E : TypeId} {a : Option Addr} {xs : List α} (h : Own w B E k enc (.slice a n c) xs) : n = xs.length := by
 obtain ⟨a', c', e, _⟩ := h.shape
 injection e
structure TextAt (w w1 : World) (c0 c1 : Array Value) (X : World) (a : Option Addr) (n c : Nat) (ws : List Bs) : Prop where
 x : Bx X w.heap.size c0
 y : Bx X w1.heap.size c1
 o : Own X (w1.heap.size + 1) 9 1 encStr (.slice a n c) ws
 b : Below w.heap.size w X
 s : w1.heap.size + 1 ≤ X.heap.size
theorem TextAt.snoc {w w1 X X' : World} {c0 c1 : Array Value} {a a' : Option Addr} {n c c' : Nat} {ws : List Bs} {s : Bs} (h : TextAt w w1 c0 c1 X a n c ws) (hlt : w.heap.size < w1.heap.size)
   (hown : Own X' (w1.heap.size + 1) 9 1 encStr (.slice a' (n + 1) c') (ws ++ [s])) (hg : (X.alloc (.cells #[.string ⟨s.toArray⟩] 9)).grownBy X' (Value.slice a n c).ownBlock) : TextAt w w1 c0 c1 X' a' (n + 1) c' (ws ++ [s]) :=
 ⟨(h.x.alloc _).grown hg (fun e => by have := (h.o.lt _ e).1; omega), (h.y.alloc _).grown hg (fun e => by have := (h.o.lt _ e).1; omega), hown,
   below_app (h.b.alloc h.b.size _) (h.o.alloc _) (by omega) (by have := h.s; simp; omega) hg, by have := hg.size; have := h.s; simp at *; omega⟩
theorem TextAt.call {w w1 X X' : World} {c0 c1 : Array Value} {a : Option Addr} {n c : Nat} {ws : List Bs} (h : TextAt w w1 c0 c1 X a n c ws) (hb : Below X.heap.size X X') : TextAt w w1 c0 c1 X' a n c ws :=
 ⟨h.x.keep hb, h.y.keep hb, h.o.below hb rfl, h.b.trans (hb.mono h.b.size), Nat.le_trans h.s hb.size⟩
theorem join_len (ws : List Bs) (h : ∀ x ∈ ws, x.length ≤ 40) : (Lib.join ws [32]).length ≤ 41 * ws.length := by
 show ([32].intercalate ws : Bs).length ≤ _
 induction ws with
 | nil => simp
 | cons a l ih =>
   have h1 := h a List.mem_cons_self
   have h2 := ih (fun x hx => h x (List.mem_cons_of_mem _ hx))
   cases l with
   | nil => simp; omega
   | cons b r =>
     rw [List.intercalate_cons_cons]
     simp only [List.length_append, List.length_cons, List.length_nil] at *
     omega
theorem join_any (a : Option Addr) (n c : Nat) (ws : List Bs) (w : World) (hr : Row w 1 encStr a n c ws) (hn : 0 < n) (hw : ∀ x ∈ ws, x.length ≤ 40) (hl : n ≤ 100000) :
   Calls Tryz.prog 46 #[.slice a n c, .string ⟨#[32]⟩] w (Ret (.string ⟨(Lib.join ws [32]).toArray⟩) w) := by
 obtain ⟨_, b, o, _, rfl, hc⟩ := hr.at_ hn
 have hlen := hr.len
 subst hlen
 have hm : (ws.map (fun s => (⟨s.toArray⟩ : ByteArray))).map (·.data.toList) = ws := by
   rw [List.map_map]
   conv => rhs; rw [← List.map_id ws]
   exact List.map_congr_left (fun x _ => rfl)
 have hj := join_len ws hw
 have hbk : b < w.heap.size := by
   have := hc 0 _ rfl
   exact cell_lt this
 have := Tryz.strings_Join b o c (ws.map (fun s => (⟨s.toArray⟩ : ByteArray))) ⟨#[32]⟩ w (fun j x hx => by
   rw [List.getElem?_map] at hx
   cases hy : ws[j]? with
   | none => rw [hy] at hx; cases hx
   | some y =>
     rw [hy] at hx
     simp only [Option.map_some, Option.some.injEq] at hx
     subst hx
     obtain ⟨_, b', o', hx', hab, hc'⟩ := hr.at_ (i := j) (List.getElem?_eq_some_iff.1 hy).1
     cases hab
     rw [hy] at hx'; cases hx'
     have := hc' 0 _ rfl
     rwa [Nat.mul_one, Nat.add_zero] at this) hbk (by rw [List.length_map]; omega) (by rw [List.length_map]; exact hr.cap) (by rw [hm]; show (Lib.join ws [32]).length ≤ _; omega)
 rw [hm, List.length_map] at this
 exact this
theorem word_len {s : Bs} (h : wordB ⟨s.toArray⟩ = true) : s.length ≤ 24 := by
 simp only [wordB, Bool.and_eq_true, decide_eq_true_eq] at h
 have := h.1.1.2
 simp only [ByteArray.size, List.size_toArray] at this
 omega
theorem told_len {t : To} (h : toOk t) : (toldT t).length ≤ 40 := by
 unfold toldT
 rcases h with rfl | ⟨h1, h2, h3⟩
 · decide
 · rw [if_neg (by omega)]
   have := word_len h1
   have := digs_len 3 t.k.toNat (by omega)
   simp; omega
theorem toOk_b {t : To} (h : toOk t) : 0 ≤ t.k ∧ t.k ≤ 999 ∧ t.name.length ≤ 100000 := by
 rcases h with rfl | ⟨h1, h2, h3⟩
 · decide
 · have := word_len h1
   exact ⟨by omega, h3, by omega⟩
theorem level_len (i : Nat) : (levelT i).length ≤ 40 := by unfold levelT; split <;> decide
theorem form_len (i : Nat) : (formV i).length ≤ 40 := by unfold formV; split <;> decide
theorem guard_len (i : Nat) : (guardT i).length ≤ 40 := by unfold guardT; split <;> decide
theorem words_len (s : LnS) (hn : ∀ x ∈ s.names, wordB ⟨x.toArray⟩ = true) (hv : ∀ t ∈ s.vers, toOk t) : ∀ x ∈ wordsS s, x.length ≤ 40 := by
 have hn' : ∀ x ∈ s.names, x.length ≤ 40 := fun x hx => by have := word_len (hn x hx); omega
 intro x hx
 simp only [wordsS, List.cons_append, List.mem_cons, List.mem_append] at hx
 rcases hx with rfl | hx | hx | hx
 · exact form_len _
 · exact hn' x (List.mem_of_mem_take hx)
 · split at hx
   · simp only [List.mem_singleton] at hx; subst hx; exact level_len _
   · split at hx
     · obtain ⟨t, ht, rfl⟩ := List.mem_map.1 hx
       exact told_len (hv t (List.mem_of_mem_take ht))
     · split at hx
       · obtain ⟨i, rfl⟩ := guardsN_mem hx
         exact guard_len _
       · split at hx
         · simp only [List.mem_singleton] at hx; subst hx; decide
         · cases hx
 · split at hx
   · obtain ⟨p, hp, hx⟩ := List.mem_flatMap.1 hx
     obtain ⟨h1, h2⟩ := List.of_mem_zip hp
     simp only [List.mem_cons, List.not_mem_nil, or_false] at hx
     rcases hx with rfl | rfl
     · exact hn' _ (List.mem_of_mem_drop h1)
     · exact told_len (hv _ h2)
   · exact hn' x (List.mem_of_mem_drop hx)
theorem index_g0 (W : World) : (Instr.index 80 (.agg #[.string ⟨#[114, 121, 119]⟩, .string ⟨#[109, 114]⟩, .string ⟨#[109, 119]⟩, .string ⟨#[119, 102, 114]⟩]) (.int .i64 0)).run Tryz.prog W = .ok (.string ⟨#[114, 121, 119]⟩) W := by kernel_rfl
theorem index_g1 (W : World) : (Instr.index 80 (.agg #[.string ⟨#[114, 121, 119]⟩, .string ⟨#[109, 114]⟩, .string ⟨#[109, 119]⟩, .string ⟨#[119, 102, 114]⟩]) (.int .i64 1)).run Tryz.prog W = .ok (.string ⟨#[109, 114]⟩) W := by kernel_rfl
theorem index_g2 (W : World) : (Instr.index 80 (.agg #[.string ⟨#[114, 121, 119]⟩, .string ⟨#[109, 114]⟩, .string ⟨#[109, 119]⟩, .string ⟨#[119, 102, 114]⟩]) (.int .i64 2)).run Tryz.prog W = .ok (.string ⟨#[109, 119]⟩) W := by kernel_rfl
theorem index_g3 (W : World) : (Instr.index 80 (.agg #[.string ⟨#[114, 121, 119]⟩, .string ⟨#[109, 114]⟩, .string ⟨#[109, 119]⟩, .string ⟨#[119, 102, 114]⟩]) (.int .i64 3)).run Tryz.prog W = .ok (.string ⟨#[119, 102, 114]⟩) W := by kernel_rfl
theorem bits_tab : ∀ b : Fin 16, ∀ j : Fin 4, (Go.bits .and .i64 ((b.val : Int) / 2 ^ j.val) 1 == 1) = decide ((b.val : Int) / 2 ^ j.val % 2 = 1) := by decide
theorem bits_one (b j : Nat) (hb : b ≤ 15) (hj : j < 4) : (Go.bits .and .i64 ((b : Int) / 2 ^ j) 1 == 1) = decide ((b : Int) / 2 ^ j % 2 = 1) := bits_tab ⟨b, by omega⟩ ⟨j, hj⟩
end Yd


namespace Yd
open Go Go.RowKit Go.Proofs
theorem text_k1a (nb no : Nat) (va : Option Addr) (vc : Nat) (lv : Nat) (h1 : 1 ≤ lv) (h4 : lv ≤ 4) (names : List Bs) (vers : List To) (w : World) (hl : LineW w (some ⟨nb, no, none⟩) 2 2 va 0 vc names vers) :
   Calls Tryz.prog 15 #[valLn ⟨1, (some ⟨nb, no, none⟩), 2, 2, lv, va, 0, vc, false, 0⟩] w (Ret2 (.string ⟨(textS ⟨1, names, lv, vers, false, 0⟩).toArray⟩) (.int .i64 0) w) := by
 have HL := hid hl
 have hf := hl.g.2.1 1 (by decide)
 have hf1 := hf.1; have hf2 := hf.2.1; have hf3 := hf.2.2
 simp only [formV, formN, formR] at hf1 hf2 hf3
 have hb0 := cell_lt hf1
 simp only at hb0
 obtain ⟨i, z, hi, hz, hsize, hby', hzs⟩ := partsStr
 have HI := hid (⟨hi, hz, hsize, hby', hzs⟩ : _ ∧ _ ∧ _ ∧ _ ∧ _)
 have HB0 := hid (belowA (Below.refl w.heap.size w) (.cells #[.int .i64 1, .slice (some ⟨nb, no, none⟩) 2 2, .int .i64 lv, .slice va 0 vc, .bool false, .int .i64 0] 28))
 have HX0 := hid (Bx.new w #[.int .i64 1, .slice (some ⟨nb, no, none⟩) 2 2, .int .i64 lv, .slice va 0 vc, .bool false, .int .i64 0] 28)
 have hle := hl.rn.le; have hcap := hl.rn.cap; have hlen := hl.rn.len
 have HF := hid (⟨hf1, hf2, hf3⟩ : _ ∧ _ ∧ _)
 have hlv : ((lv : Int) != 0) = true := by simp; omega
 clear hl hf hf1 hf2 hf3 hi hz hsize hby' hzs
 go_enter Tryz.func15, Tryz.ntmps15
 go_wp2_with fail
 refine (check_k1 (some ⟨nb, no, none⟩) 2 va vc lv h1 h4 names vers _ (HL.out.below HB0.out)).mono ?_
 rintro e w1 ⟨rfl, hb1⟩
 have hx1 := HX0.out.keep hb1
 have HB1 := hid (HB0.out.trans (hb1.mono HB0.out.size)); have HX1 := hid hx1
 have hcx1 := hx1.1
 have hf1 := bget HB1.out rfl HF.out.1; have hf2 := bget HB1.out rfl HF.out.2.1; have hf3 := bget HB1.out rfl HF.out.2.2
 have hlt := HB1.out.size
 have hlx := hx1.2.2
 have hlt' : w.heap.size < w1.heap.size := hlx
 have hb0' : 0 < w1.heap.size := Nat.lt_of_lt_of_le hb0 HB1.out.size
 clear hb1 hx1
 go_wp2_with fail
 have HY := hid (Bx.new w1 #[.string ⟨#[98, 101, 103, 105, 110]⟩, .int .i64 2, .int .i32 108] 76)
 have HOW0 : Hid (Own ((w1.alloc (.cells #[.string ⟨#[98, 101, 103, 105, 110]⟩, .int .i64 2, .int .i32 108] 76)).drew.alloc (.cells #[.string ⟨#[98, 101, 103, 105, 110]⟩] 9)) (w1.heap.size + 1) 9 1 encStr (.slice (some ⟨w1.heap.size + 1, 0, none⟩) 1 1) [formV 1]) := hid (Own.strs (X := (w1.alloc (.cells #[.string ⟨#[98, 101, 103, 105, 110]⟩, .int .i64 2, .int .i32 108] 76)).drew) (by simp) [formV 1] (by simp [maxLen]))
 have HBS := hid (belowA (belowA (Below.refl w1.heap.size w1) (.cells #[.string ⟨#[98, 101, 103, 105, 110]⟩, .int .i64 2, .int .i32 108] 76)).drew (.cells #[.string ⟨#[98, 101, 103, 105, 110]⟩] 9))
 have HR0 := hid (((HL.out.below HB1.out).rn.below HBS.out rfl).takeN (m := 2) (c' := 2) (by omega) (by omega))
 have HLO : Hid (w1.heap.size + 1 ≤ ((w1.alloc (.cells #[.string ⟨#[98, 101, 103, 105, 110]⟩, .int .i64 2, .int .i32 108] 76)).drew.alloc (.cells #[.string ⟨#[98, 101, 103, 105, 110]⟩] 9)).heap.size) := hid (by simp)
 have HXY := hid (HX1.out.alloc (.cells #[.string ⟨#[98, 101, 103, 105, 110]⟩, .int .i64 2, .int .i32 108] 76))
 refine wp_region_ordC 9 [(0, 0), (1, 0), (3, 0), (4, 0), (5, 0), (6, 0), (7, 0), (2, 2), (8, 2), (9, 1)] (fun _ => True) (fun W' => W'.cell? ⟨w.heap.size, 1, none⟩ = some (.slice (some ⟨nb, no, none⟩) 2 2) ∧ W'.cell? ⟨w1.heap.size, 0, none⟩ = some (.string ⟨#[98, 101, 103, 105, 110]⟩) ∧ W'.cell? ⟨w1.heap.size, 1, none⟩ = some (.int .i64 2)) (by kernel_rfl) (by kernel_rfl) (trivial) (⟨HXY.out.drew.1 1, HY.out.drew.1 0, HY.out.drew.1 1⟩) ?_
 repeat ((first | refine ordC_skip rfl rfl ?_ | refine ordC_skip1 rfl rfl ?_ | ((first | refine ordC_q rfl rfl ?_ | refine ordC_p rfl rfl ?_); apply Exists.intro; refine ⟨fun wS hS => ?_, ?_⟩; (go_simp; try with_reducible rfl))); simp only [Act.put, List.setIfInBounds_toArray, List.set_cons_zero, List.set_cons_succ])
 refine ordC_l rfl rfl (fun K hK => ?_)
 go_simp
 refine hK _ _ ⟨trivial, (HXY.out.drew.alloc _).1 1, (HY.out.drew.alloc _).1 0, (HY.out.drew.alloc _).1 1⟩ ?_
 clear hK K
 refine ordC_l rfl rfl (fun K hK => ?_)
 refine wp_app _ _ 25 rfl i z 16 Tryz.underlying25 HI.out.1 HI.out.2.1 HI.out.2.2.1 HI.out.2.2.2.1 HI.out.2.2.2.2 (v := .slice (some ⟨w1.heap.size + 1, 0, none⟩) 1 1) rfl HOW0.out (some ⟨nb, no, none⟩) 2 2 3 (names.take 2) rfl HR0.out rfl (by omega) (by simp [maxLen]) HLO.out ?_
 intro a2 c2 w2 hown2 hg2 hat2
 have hx2 : Bx w2 w.heap.size #[.int .i64 1, .slice (some ⟨nb, no, none⟩) 2 2, .int .i64 lv, .slice va 0 vc, .bool false, .int .i64 0] := (HXY.out.drew.alloc _).grown hg2 (HOW0.out.far' (.inl (by omega)))
 have hy2 : Bx w2 w1.heap.size #[.string ⟨#[98, 101, 103, 105, 110]⟩, .int .i64 2, .int .i32 108] := (HY.out.drew.alloc _).grown hg2 (HOW0.out.far' (.inl (by omega)))
 refine hK _ _ ⟨trivial, hx2.1 1, hy2.1 0, hy2.1 1⟩ ?_
 have hcx2 := hx2.1; have hcy2 := hy2.1
 have HT2 : Hid (TextAt w w1 #[.int .i64 1, .slice (some ⟨nb, no, none⟩) 2 2, .int .i64 lv, .slice va 0 vc, .bool false, .int .i64 0] #[.string ⟨#[98, 101, 103, 105, 110]⟩, .int .i64 2, .int .i32 108] w2 a2 3 c2 ([formV 1] ++ names.take 2)) := hid ⟨hx2, hy2, hown2, HB1.out.trans ((below_app (((HBS.out.mono hlt))) HOW0.out (by omega) (by have := HLO.out; omega) hg2)), by have := hg2.size; have := HLO.out; omega⟩
 clear hK K hown2 hg2 hat2 hx2 hy2
 repeat ((first | refine ordC_skip rfl rfl ?_ | refine ordC_skip1 rfl rfl ?_ | ((first | refine ordC_q rfl rfl ?_ | refine ordC_p rfl rfl ?_); apply Exists.intro; refine ⟨fun wS hS => ?_, ?_⟩; (go_simp; try with_reducible rfl))); simp only [Act.put, List.setIfInBounds_toArray, List.set_cons_zero, List.set_cons_succ])
 refine ordC_nil ?_
 go_wp2_with fail
 refine (level_yes lv h1 h4 _ (HL.out.below HT2.out.b).g).mono ?_
 rintro e w3 ⟨rfl, hb3⟩
 have HT3 := hid (HT2.out.call hb3)
 clear hb3
 have hcx3 := HT3.out.x.1; have hcy3 := HT3.out.y.1
 have HLT := hid hlt'
 have HN4 : Hid (([formV 1] ++ names.take 2).length + 1 = 3 + 1 ∧ (3 + 1) * 16 ≤ 140737488355328 ∧ 3 + 1 ≤ maxLen) := hid ⟨by have := HT3.out.o.len; omega, by omega, by unfold maxLen; omega⟩
 go_wp2_with (at_builtin; refine wpList_app rfl _ _ 25 rfl i z 16 Tryz.underlying25 HI.out.1 HI.out.2.1 HI.out.2.2.1 HI.out.2.2.2.1 HI.out.2.2.2.2 rfl (HT3.out.o.alloc _) (some ⟨w3.heap.size, 0, none⟩) (1) (1) (3 + 1) [levelT lv] rfl (Row.strN rfl (levelT lv)) HN4.out.1 HN4.out.2.1 HN4.out.2.2 (by have := HT3.out.s; simp; omega) ?_; intro a4 c4 w4 hown4 hg4 hat4; have HT4 := hid (HT3.out.snoc HLT.out hown4 hg4); clear hown4 hg4 hat4; have hcx4 := HT4.out.x.1; have hcy4 := HT4.out.y.1)
 go_loopw [6, 91] (fun v i wr => v = .slice a4 4 c4 ∧ i = .int .i64 0 ∧ wr = w4) (fun _ _ _ => 0)
 case atStart => exact ⟨rfl, rfl, rfl⟩
 case round =>
   obtain ⟨rfl, rfl, rfl⟩ := hrel
   go_wp2_with fail
   have hwl : ∀ x ∈ (wordsS ⟨1, names, lv, vers, false, 0⟩), x.length ≤ 40 := words_len _ HL.out.wn HL.out.wv
   have hT9 := HT4.out
   rw [show [formV 1] ++ names.take 2 ++ [levelT lv] = wordsS ⟨1, names, lv, vers, false, 0⟩ from by simp [wordsS, formN, formR, List.drop_of_length_le, hlen, List.take_of_length_le]] at hT9
   have hjl := join_len _ hwl
   have hln := hT9.o.len
   have hNL : ¬ (9223372036854775807 < (Lib.join (wordsS ⟨1, names, lv, vers, false, 0⟩) [32]).length + 1) := by omega
   have HJ := hid (join_any _ _ _ _ _ (hT9.o.row (by omega)) (by omega) hwl (by omega))
   have HT9 := hid hT9
   clear hwl hjl hln hT9
   refine HJ.out.mono ?_
   rintro e w9 ⟨rfl, hb9⟩
   have HB9 := hid (HT9.out.b.trans (hb9.mono HT9.out.b.size))
   clear hb9 HJ
   go_wp2_with fail
   go_ret2
   exact ⟨congrArg (fun s => Ending.returned (.tuple #[.string s, .int .i64 0])) (cat2 _ _), HB9.out⟩
theorem text_k1b (nb no : Nat) (nc : Nat) (hnc : 2 < nc) (va : Option Addr) (vc : Nat) (lv : Nat) (h1 : 1 ≤ lv) (h4 : lv ≤ 4) (names : List Bs) (vers : List To) (w : World) (hl : LineW w (some ⟨nb, no, none⟩) 2 nc va 0 vc names vers) :
   Calls Tryz.prog 15 #[valLn ⟨1, (some ⟨nb, no, none⟩), 2, nc, lv, va, 0, vc, false, 0⟩] w (Ret2 (.string ⟨(textS ⟨1, names, lv, vers, false, 0⟩).toArray⟩) (.int .i64 0) w) := by
 have HL := hid hl
 have hf := hl.g.2.1 1 (by decide)
 have hf1 := hf.1; have hf2 := hf.2.1; have hf3 := hf.2.2
 simp only [formV, formN, formR] at hf1 hf2 hf3
 have hb0 := cell_lt hf1
 simp only at hb0
 obtain ⟨i, z, hi, hz, hsize, hby', hzs⟩ := partsStr
 have HI := hid (⟨hi, hz, hsize, hby', hzs⟩ : _ ∧ _ ∧ _ ∧ _ ∧ _)
 have HB0 := hid (belowA (Below.refl w.heap.size w) (.cells #[.int .i64 1, .slice (some ⟨nb, no, none⟩) 2 nc, .int .i64 lv, .slice va 0 vc, .bool false, .int .i64 0] 28))
 have HX0 := hid (Bx.new w #[.int .i64 1, .slice (some ⟨nb, no, none⟩) 2 nc, .int .i64 lv, .slice va 0 vc, .bool false, .int .i64 0] 28)
 have hle := hl.rn.le; have hcap := hl.rn.cap; have hlen := hl.rn.len
 have hcapI : ((2 : Int) ≤ (nc : Int)) := by omega
 have hcapE : ¬ (nc = 2) := by omega
 have HF := hid (⟨hf1, hf2, hf3⟩ : _ ∧ _ ∧ _)
 have hlv : ((lv : Int) != 0) = true := by simp; omega
 clear hl hf hf1 hf2 hf3 hi hz hsize hby' hzs
 go_enter Tryz.func15, Tryz.ntmps15
 go_wp2_with fail
 refine (check_k1 (some ⟨nb, no, none⟩) nc va vc lv h1 h4 names vers _ (HL.out.below HB0.out)).mono ?_
 rintro e w1 ⟨rfl, hb1⟩
 have hx1 := HX0.out.keep hb1
 have HB1 := hid (HB0.out.trans (hb1.mono HB0.out.size)); have HX1 := hid hx1
 have hcx1 := hx1.1
 have hf1 := bget HB1.out rfl HF.out.1; have hf2 := bget HB1.out rfl HF.out.2.1; have hf3 := bget HB1.out rfl HF.out.2.2
 have hlt := HB1.out.size
 have hlx := hx1.2.2
 have hlt' : w.heap.size < w1.heap.size := hlx
 have hb0' : 0 < w1.heap.size := Nat.lt_of_lt_of_le hb0 HB1.out.size
 clear hb1 hx1
 go_wp2_with fail
 have HY := hid (Bx.new w1 #[.string ⟨#[98, 101, 103, 105, 110]⟩, .int .i64 2, .int .i32 108] 76)
 have HOW0 : Hid (Own ((w1.alloc (.cells #[.string ⟨#[98, 101, 103, 105, 110]⟩, .int .i64 2, .int .i32 108] 76)).drew.alloc (.cells #[.string ⟨#[98, 101, 103, 105, 110]⟩] 9)) (w1.heap.size + 1) 9 1 encStr (.slice (some ⟨w1.heap.size + 1, 0, none⟩) 1 1) [formV 1]) := hid (Own.strs (X := (w1.alloc (.cells #[.string ⟨#[98, 101, 103, 105, 110]⟩, .int .i64 2, .int .i32 108] 76)).drew) (by simp) [formV 1] (by simp [maxLen]))
 have HBS := hid (belowA (belowA (Below.refl w1.heap.size w1) (.cells #[.string ⟨#[98, 101, 103, 105, 110]⟩, .int .i64 2, .int .i32 108] 76)).drew (.cells #[.string ⟨#[98, 101, 103, 105, 110]⟩] 9))
 have HR0 := hid (((HL.out.below HB1.out).rn.below HBS.out rfl).takeN (m := 2) (c' := nc) (by omega) (by omega))
 have HLO : Hid (w1.heap.size + 1 ≤ ((w1.alloc (.cells #[.string ⟨#[98, 101, 103, 105, 110]⟩, .int .i64 2, .int .i32 108] 76)).drew.alloc (.cells #[.string ⟨#[98, 101, 103, 105, 110]⟩] 9)).heap.size) := hid (by simp)
 have HXY := hid (HX1.out.alloc (.cells #[.string ⟨#[98, 101, 103, 105, 110]⟩, .int .i64 2, .int .i32 108] 76))
 refine wp_region_ordC 9 [(0, 0), (1, 0), (3, 0), (4, 0), (5, 0), (6, 0), (7, 0), (2, 2), (8, 2), (9, 1)] (fun _ => True) (fun W' => W'.cell? ⟨w.heap.size, 1, none⟩ = some (.slice (some ⟨nb, no, none⟩) 2 nc) ∧ W'.cell? ⟨w1.heap.size, 0, none⟩ = some (.string ⟨#[98, 101, 103, 105, 110]⟩) ∧ W'.cell? ⟨w1.heap.size, 1, none⟩ = some (.int .i64 2)) (by kernel_rfl) (by kernel_rfl) (trivial) (⟨HXY.out.drew.1 1, HY.out.drew.1 0, HY.out.drew.1 1⟩) ?_
 repeat ((first | refine ordC_skip rfl rfl ?_ | refine ordC_skip1 rfl rfl ?_ | ((first | refine ordC_q rfl rfl ?_ | refine ordC_p rfl rfl ?_); apply Exists.intro; refine ⟨fun wS hS => ?_, ?_⟩; (go_simp; try with_reducible rfl))); simp only [Act.put, List.setIfInBounds_toArray, List.set_cons_zero, List.set_cons_succ])
 refine ordC_l rfl rfl (fun K hK => ?_)
 go_simp
 refine hK _ _ ⟨trivial, (HXY.out.drew.alloc _).1 1, (HY.out.drew.alloc _).1 0, (HY.out.drew.alloc _).1 1⟩ ?_
 clear hK K
 refine ordC_l rfl rfl (fun K hK => ?_)
 refine wp_app _ _ 25 rfl i z 16 Tryz.underlying25 HI.out.1 HI.out.2.1 HI.out.2.2.1 HI.out.2.2.2.1 HI.out.2.2.2.2 (v := .slice (some ⟨w1.heap.size + 1, 0, none⟩) 1 1) rfl HOW0.out (some ⟨nb, no, none⟩) 2 nc 3 (names.take 2) rfl HR0.out rfl (by omega) (by simp [maxLen]) HLO.out ?_
 intro a2 c2 w2 hown2 hg2 hat2
 have hx2 : Bx w2 w.heap.size #[.int .i64 1, .slice (some ⟨nb, no, none⟩) 2 nc, .int .i64 lv, .slice va 0 vc, .bool false, .int .i64 0] := (HXY.out.drew.alloc _).grown hg2 (HOW0.out.far' (.inl (by omega)))
 have hy2 : Bx w2 w1.heap.size #[.string ⟨#[98, 101, 103, 105, 110]⟩, .int .i64 2, .int .i32 108] := (HY.out.drew.alloc _).grown hg2 (HOW0.out.far' (.inl (by omega)))
 refine hK _ _ ⟨trivial, hx2.1 1, hy2.1 0, hy2.1 1⟩ ?_
 have hcx2 := hx2.1; have hcy2 := hy2.1
 have HT2 : Hid (TextAt w w1 #[.int .i64 1, .slice (some ⟨nb, no, none⟩) 2 nc, .int .i64 lv, .slice va 0 vc, .bool false, .int .i64 0] #[.string ⟨#[98, 101, 103, 105, 110]⟩, .int .i64 2, .int .i32 108] w2 a2 3 c2 ([formV 1] ++ names.take 2)) := hid ⟨hx2, hy2, hown2, HB1.out.trans ((below_app (((HBS.out.mono hlt))) HOW0.out (by omega) (by have := HLO.out; omega) hg2)), by have := hg2.size; have := HLO.out; omega⟩
 clear hK K hown2 hg2 hat2 hx2 hy2
 repeat ((first | refine ordC_skip rfl rfl ?_ | refine ordC_skip1 rfl rfl ?_ | ((first | refine ordC_q rfl rfl ?_ | refine ordC_p rfl rfl ?_); apply Exists.intro; refine ⟨fun wS hS => ?_, ?_⟩; (go_simp; try with_reducible rfl))); simp only [Act.put, List.setIfInBounds_toArray, List.set_cons_zero, List.set_cons_succ])
 refine ordC_nil ?_
 go_wp2_with fail
 refine (level_yes lv h1 h4 _ (HL.out.below HT2.out.b).g).mono ?_
 rintro e w3 ⟨rfl, hb3⟩
 have HT3 := hid (HT2.out.call hb3)
 clear hb3
 have hcx3 := HT3.out.x.1; have hcy3 := HT3.out.y.1
 have HLT := hid hlt'
 have HN4 : Hid (([formV 1] ++ names.take 2).length + 1 = 3 + 1 ∧ (3 + 1) * 16 ≤ 140737488355328 ∧ 3 + 1 ≤ maxLen) := hid ⟨by have := HT3.out.o.len; omega, by omega, by unfold maxLen; omega⟩
 go_wp2_with (at_builtin; refine wpList_app rfl _ _ 25 rfl i z 16 Tryz.underlying25 HI.out.1 HI.out.2.1 HI.out.2.2.1 HI.out.2.2.2.1 HI.out.2.2.2.2 rfl (HT3.out.o.alloc _) (some ⟨w3.heap.size, 0, none⟩) (1) (1) (3 + 1) [levelT lv] rfl (Row.strN rfl (levelT lv)) HN4.out.1 HN4.out.2.1 HN4.out.2.2 (by have := HT3.out.s; simp; omega) ?_; intro a4 c4 w4 hown4 hg4 hat4; have HT4 := hid (HT3.out.snoc HLT.out hown4 hg4); clear hown4 hg4 hat4; have hcx4 := HT4.out.x.1; have hcy4 := HT4.out.y.1)
 go_loopw [6, 91] (fun v i wr => v = .slice a4 4 c4 ∧ i = .int .i64 0 ∧ wr = w4) (fun _ _ _ => 0)
 case atStart => exact ⟨rfl, rfl, rfl⟩
 case round =>
   obtain ⟨rfl, rfl, rfl⟩ := hrel
   go_wp2_with fail
   have hwl : ∀ x ∈ (wordsS ⟨1, names, lv, vers, false, 0⟩), x.length ≤ 40 := words_len _ HL.out.wn HL.out.wv
   have hT9 := HT4.out
   rw [show [formV 1] ++ names.take 2 ++ [levelT lv] = wordsS ⟨1, names, lv, vers, false, 0⟩ from by simp [wordsS, formN, formR, List.drop_of_length_le, hlen, List.take_of_length_le]] at hT9
   have hjl := join_len _ hwl
   have hln := hT9.o.len
   have hNL : ¬ (9223372036854775807 < (Lib.join (wordsS ⟨1, names, lv, vers, false, 0⟩) [32]).length + 1) := by omega
   have HJ := hid (join_any _ _ _ _ _ (hT9.o.row (by omega)) (by omega) hwl (by omega))
   have HT9 := hid hT9
   clear hwl hjl hln hT9
   refine HJ.out.mono ?_
   rintro e w9 ⟨rfl, hb9⟩
   have HB9 := hid (HT9.out.b.trans (hb9.mono HT9.out.b.size))
   clear hb9 HJ
   go_wp2_with fail
   go_ret2
   exact ⟨congrArg (fun s => Ending.returned (.tuple #[.string s, .int .i64 0])) (cat2 _ _), HB9.out⟩
end Yd


namespace Yd
open Go Go.RowKit Go.Proofs
theorem check_k2 (na : Option Addr) (nc : Nat) (va : Option Addr) (vc : Nat) (names : List Bs) (vers : List To) (w : World) (hl : LineW w na 2 nc va 0 vc names vers) :
   Calls Tryz.prog 17 #[valLn ⟨2, na, 2, nc, 0, va, 0, vc, false, 0⟩] w (Ret (.int .i64 0) w) := by
 have HL := hid hl
 have hf := hl.g.2.1 2 (by decide)
 have hf1 := hf.1; have hf2 := hf.2.1; have hf3 := hf.2.2
 simp only [formV, formN, formR] at hf1 hf2 hf3
 have hb0 := cell_lt hf1
 simp only at hb0
 have HB0 := hid (belowA (belowA (Below.refl w.heap.size w) (.cells #[.int .i64 2, .slice na 2 nc, .int .i64 0, .slice va 0 vc, .bool false, .int .i64 0] 28)) (.cells #[.string ⟨#[119, 114, 105, 116, 101]⟩, .int .i64 2, .int .i32 0] 76))
 have HX0 := hid ((Bx.new w #[.int .i64 2, .slice na 2 nc, .int .i64 0, .slice va 0 vc, .bool false, .int .i64 0] 28).alloc (.cells #[.string ⟨#[119, 114, 105, 116, 101]⟩, .int .i64 2, .int .i32 0] 76))
 have HY0 : Hid (Bx ((w.alloc (.cells #[.int .i64 2, .slice na 2 nc, .int .i64 0, .slice va 0 vc, .bool false, .int .i64 0] 28)).alloc (.cells #[.string ⟨#[119, 114, 105, 116, 101]⟩, .int .i64 2, .int .i32 0] 76)) (w.heap.size + 1) #[.string ⟨#[119, 114, 105, 116, 101]⟩, .int .i64 2, .int .i32 0]) := hid (Bx.new1 (by simp))
 clear hl hf
 go_enter Tryz.func17, Tryz.ntmps17
 go_wp2_with fail
 refine (most_any _ _).mono ?_
 rintro e w1 ⟨rfl, hb1⟩
 have hy1 := HX0.out.keep hb1; have hz1 := HY0.out.keep hb1
 have HX1 := hid hy1; have HY1 := hid hz1; have HB1 := hid (HB0.out.trans (hb1.mono HB0.out.size))
 have hcx1 := hy1.1; have hcy1 := hz1.1
 clear hb1 hy1 hz1
 simp only [mostR, Int.reduceEq, if_false]
 go_wp2_with fail
 refine (HL.out.below HB1.out).vers.mono ?_
 rintro e w2 ⟨rfl, hb2⟩
 have hy2 := HX1.out.keep hb2; have hz2 := HY1.out.keep hb2
 have HX2 := hid hy2; have HY2 := hid hz2; have HB2 := hid (HB1.out.trans (hb2.mono HB1.out.size))
 have hcx2 := hy2.1; have hcy2 := hz2.1
 clear hb2 hy2 hz2
 go_wp2_with fail
 refine (HL.out.below HB2.out).names.mono ?_
 rintro e w3 ⟨rfl, hb3⟩
 have hy3 := HX2.out.keep hb3; have hz3 := HY2.out.keep hb3
 have HX3 := hid hy3; have HY3 := hid hz3; have HB3 := hid (HB2.out.trans (hb3.mono HB2.out.size))
 have hcx3 := hy3.1; have hcy3 := hz3.1
 clear hb3 hy3 hz3
 go_wp2_with fail
 refine (level_no _).mono ?_
 rintro e w4 ⟨rfl, hb4⟩
 have hy4 := HX3.out.keep hb4; have hz4 := HY3.out.keep hb4
 have HX4 := hid hy4; have HY4 := hid hz4; have HB4 := hid (HB3.out.trans (hb4.mono HB3.out.size))
 have hcx4 := hy4.1; have hcy4 := hz4.1
 clear hb4 hy4 hz4
 go_wp2_with fail
 go_ret
 exact ⟨rfl, HB4.out⟩
end Yd
