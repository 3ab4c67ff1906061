import Derived.Test.YthdpangjphphjaaGreatDoorLines
import Derived.Test.YthdpangjphphjaaGreatDoorShelf
import Derived.Lib.Join
import Derived.Test.YthdpangjphphjaaGreatDoorProg
import Derived.Test.YthdpangjphphjaaGreatDoorOwn
set_option maxRecDepth 200000
set_option maxHeartbeats 8000000
namespace Yd
open Go Go.RowKit Go.Proofs

def guardsN (b : Int) : Nat → List Bs
 | 0 => []
 | j + 1 => guardsN b j ++ if b / 2 ^ j % 2 = 1 then [guardT j] else []
def guardsW (b : Int) : List Bs := guardsN b 4
theorem guardsN_len (b : Int) : ∀ j, (guardsN b j).length ≤ j
 | 0 => Nat.le_refl _
 | j + 1 => by
   have := guardsN_len b j
   simp only [guardsN, List.length_append]
   split <;> simp <;> omega
theorem guardsN_mem {b : Int} {x : Bs} : ∀ {j : Nat}, x ∈ guardsN b j → ∃ i, x = guardT i
 | 0, h => by simp [guardsN] at h
 | j + 1, h => by
   simp only [guardsN, List.mem_append] at h
   rcases h with h | h
   · exact guardsN_mem h
   · split at h
     · exact ⟨j, by simpa using h⟩
     · cases h
def wordsS (s : LnS) : List Bs :=
 let k := s.kind.toNat
 let fn := (formN k).toNat
 let r := formR k
 formV k :: s.names.take fn ++
   ((if r = 108 then [levelT s.lvl.toNat] else if r = 118 then s.vers.take 1 |>.map toldT else if r = 103 then guardsW s.bits else if r = 109 ∧ s.first = true then [[45]] else []) ++
    if r = 115 then (s.names.drop fn).zip s.vers |>.flatMap (fun p => [p.1, toldT p.2]) else s.names.drop fn)
def textS (s : LnS) : Bs := Lib.join (wordsS s) [32] ++ [10]
theorem Row.takeN {α : Type} {enc : α → List Value} {w : World} {k : Nat} {b o n c : Nat} {xs : List α} (h : Row w k enc (some ⟨b, o, none⟩) n c xs) {m c' : Nat} (hm : m ≤ n) (hc : m ≤ c') : Row w k enc (some ⟨b, o, none⟩) m c' (xs.take m) := by
 refine ⟨by rw [List.length_take, h.len]; omega, hc, Nat.le_trans hm h.le, fun h => (by cases h), fun i x hx => ?_⟩
 rw [List.getElem?_take] at hx
 split at hx
 · exact h.2.2.2.2 i x hx
 · cases hx
theorem Own.len {α : Type} {enc : α → List Value} {w : World} {B k n c : Nat} {E : TypeId} {a : Option Addr} {xs : List α} (h : Own w B E k enc (.slice a n c) xs) : n = xs.length := by
 obtain ⟨a', c', e, _⟩ := h.shape
 injection e
structure TextAt (w w1 : World) (c0 c1 : Array Value) (X : World) (a : Option Addr) (n c : Nat) (ws : List Bs) : Prop where
 x : Bx X w.heap.size c0
 y : Bx X w1.heap.size c1
 o : Own X (w1.heap.size + 1) 9 1 encStr (.slice a n c) ws
 b : Below w.heap.size w X
 s : w1.heap.size + 1 ≤ X.heap.size
theorem TextAt.snoc {w w1 X X' : World} {c0 c1 : Array Value} {a a' : Option Addr} {n c c' : Nat} {ws : List Bs} {s : Bs} (h : TextAt w w1 c0 c1 X a n c ws) (hlt : w.heap.size < w1.heap.size)
   (hown : Own X' (w1.heap.size + 1) 9 1 encStr (.slice a' (n + 1) c') (ws ++ [s])) (hg : (X.alloc (.cells #[.string ⟨s.toArray⟩] 9)).grownBy X' (Value.slice a n c).ownBlock) : TextAt w w1 c0 c1 X' a' (n + 1) c' (ws ++ [s]) :=
 ⟨(h.x.alloc _).grown hg (fun e => by have := (h.o.lt _ e).1; omega), (h.y.alloc _).grown hg (fun e => by have := (h.o.lt _ e).1; omega), hown,
   below_app (h.b.alloc h.b.size _) (h.o.alloc _) (by omega) (by have := h.s; simp; omega) hg, by have := hg.size; have := h.s; simp at *; omega⟩
theorem TextAt.call {w w1 X X' : World} {c0 c1 : Array Value} {a : Option Addr} {n c : Nat} {ws : List Bs} (h : TextAt w w1 c0 c1 X a n c ws) (hb : Below X.heap.size X X') : TextAt w w1 c0 c1 X' a n c ws :=
 ⟨h.x.keep hb, h.y.keep hb, h.o.below hb rfl, h.b.trans (hb.mono h.b.size), Nat.le_trans h.s hb.size⟩
theorem join_len (ws : List Bs) (h : ∀ x ∈ ws, x.length ≤ 40) : (Lib.join ws [32]).length ≤ 41 * ws.length := by
 show ([32].intercalate ws : Bs).length ≤ _
 induction ws with
 | nil => simp
 | cons a l ih =>
   have h1 := h a List.mem_cons_self
   have h2 := ih (fun x hx => h x (List.mem_cons_of_mem _ hx))
   cases l with
   | nil => simp; omega
   | cons b r =>
     rw [List.intercalate_cons_cons]
     simp only [List.length_append, List.length_cons, List.length_nil] at *
     omega
theorem join_any (a : Option Addr) (n c : Nat) (ws : List Bs) (w : World) (hr : Row w 1 encStr a n c ws) (hn : 0 < n) (hw : ∀ x ∈ ws, x.length ≤ 40) (hl : n ≤ 100000) :
   Calls Tryz.prog 46 #[.slice a n c, .string ⟨#[32]⟩] w (Ret (.string ⟨(Lib.join ws [32]).toArray⟩) w) := by
 obtain ⟨_, b, o, _, rfl, hc⟩ := hr.at_ hn
 have hlen := hr.len
 subst hlen
 have hm : (ws.map (fun s => (⟨s.toArray⟩ : ByteArray))).map (·.data.toList) = ws := by
   rw [List.map_map]
   conv => rhs; rw [← List.map_id ws]
   exact List.map_congr_left (fun x _ => rfl)
 have hj := join_len ws hw
 have hbk : b < w.heap.size := by
   have := hc 0 _ rfl
   exact cell_lt this
 have := Tryz.strings_Join b o c (ws.map (fun s => (⟨s.toArray⟩ : ByteArray))) ⟨#[32]⟩ w (fun j x hx => by
   rw [List.getElem?_map] at hx
   cases hy : ws[j]? with
   | none => rw [hy] at hx; cases hx
   | some y =>
     rw [hy] at hx
     simp only [Option.map_some, Option.some.injEq] at hx
     subst hx
     obtain ⟨_, b', o', hx', hab, hc'⟩ := hr.at_ (i := j) (List.getElem?_eq_some_iff.1 hy).1
     cases hab
     rw [hy] at hx'; cases hx'
     have := hc' 0 _ rfl
     rwa [Nat.mul_one, Nat.add_zero] at this) hbk (by rw [List.length_map]; omega) (by rw [List.length_map]; exact hr.cap) (by rw [hm]; show (Lib.join ws [32]).length ≤ _; omega)
 rw [hm, List.length_map] at this
 exact this
theorem word_len {s : Bs} (h : wordB ⟨s.toArray⟩ = true) : s.length ≤ 24 := by
 simp only [wordB, Bool.and_eq_true, decide_eq_true_eq] at h
 have := h.1.1.2
 simp only [ByteArray.size, List.size_toArray] at this
 omega
theorem told_len {t : To} (h : toOk t) : (toldT t).length ≤ 40 := by
 unfold toldT
 rcases h with rfl | ⟨h1, h2, h3⟩
 · decide
 · rw [if_neg (by omega)]
   have := word_len h1
   have := digs_len 3 t.k.toNat (by omega)
   simp; omega
theorem toOk_b {t : To} (h : toOk t) : 0 ≤ t.k ∧ t.k ≤ 999 ∧ t.name.length ≤ 100000 := by
 rcases h with rfl | ⟨h1, h2, h3⟩
 · decide
 · have := word_len h1
   exact ⟨by omega, h3, by omega⟩
theorem level_len (i : Nat) : (levelT i).length ≤ 40 := by unfold levelT; split <;> decide
theorem form_len (i : Nat) : (formV i).length ≤ 40 := by unfold formV; split <;> decide
theorem guard_len (i : Nat) : (guardT i).length ≤ 40 := by unfold guardT; split <;> decide
theorem words_len (s : LnS) (hn : ∀ x ∈ s.names, wordB ⟨x.toArray⟩ = true) (hv : ∀ t ∈ s.vers, toOk t) : ∀ x ∈ wordsS s, x.length ≤ 40 := by
 have hn' : ∀ x ∈ s.names, x.length ≤ 40 := fun x hx => by have := word_len (hn x hx); omega
 intro x hx
 simp only [wordsS, List.cons_append, List.mem_cons, List.mem_append] at hx
 rcases hx with rfl | hx | hx | hx
 · exact form_len _
 · exact hn' x (List.mem_of_mem_take hx)
 · split at hx
   · simp only [List.mem_singleton] at hx; subst hx; exact level_len _
   · split at hx
     · obtain ⟨t, ht, rfl⟩ := List.mem_map.1 hx
       exact told_len (hv t (List.mem_of_mem_take ht))
     · split at hx
       · obtain ⟨i, rfl⟩ := guardsN_mem hx
         exact guard_len _
       · split at hx
         · simp only [List.mem_singleton] at hx; subst hx; decide
         · cases hx
 · split at hx
   · obtain ⟨p, hp, hx⟩ := List.mem_flatMap.1 hx
     obtain ⟨h1, h2⟩ := List.of_mem_zip hp
     simp only [List.mem_cons, List.not_mem_nil, or_false] at hx
     rcases hx with rfl | rfl
     · exact hn' _ (List.mem_of_mem_drop h1)
     · exact told_len (hv _ h2)
   · exact hn' x (List.mem_of_mem_drop hx)
theorem index_g0 (W : World) : (Instr.index 80 (.agg #[.string ⟨#[114, 121, 119]⟩, .string ⟨#[109, 114]⟩, .string ⟨#[109, 119]⟩, .string ⟨#[119, 102, 114]⟩]) (.int .i64 0)).run Tryz.prog W = .ok (.string ⟨#[114, 121, 119]⟩) W := by kernel_rfl
theorem index_g1 (W : World) : (Instr.index 80 (.agg #[.string ⟨#[114, 121, 119]⟩, .string ⟨#[109, 114]⟩, .string ⟨#[109, 119]⟩, .string ⟨#[119, 102, 114]⟩]) (.int .i64 1)).run Tryz.prog W = .ok (.string ⟨#[109, 114]⟩) W := by kernel_rfl
theorem index_g2 (W : World) : (Instr.index 80 (.agg #[.string ⟨#[114, 121, 119]⟩, .string ⟨#[109, 114]⟩, .string ⟨#[109, 119]⟩, .string ⟨#[119, 102, 114]⟩]) (.int .i64 2)).run Tryz.prog W = .ok (.string ⟨#[109, 119]⟩) W := by kernel_rfl
theorem index_g3 (W : World) : (Instr.index 80 (.agg #[.string ⟨#[114, 121, 119]⟩, .string ⟨#[109, 114]⟩, .string ⟨#[109, 119]⟩, .string ⟨#[119, 102, 114]⟩]) (.int .i64 3)).run Tryz.prog W = .ok (.string ⟨#[119, 102, 114]⟩) W := by kernel_rfl
theorem bits_tab : ∀ b : Fin 16, ∀ j : Fin 4, (Go.bits .and .i64 ((b.val : Int) / 2 ^ j.val) 1 == 1) = decide ((b.val : Int) / 2 ^ j.val % 2 = 1) := by decide
theorem bits_one (b j : Nat) (hb : b ≤ 15) (hj : j < 4) : (Go.bits .and .i64 ((b : Int) / 2 ^ j) 1 == 1) = decide ((b : Int) / 2 ^ j % 2 = 1) := bits_tab ⟨b, by omega⟩ ⟨j, hj⟩
end Yd


namespace Yd
open Go Go.RowKit Go.Proofs

@[reducible] def cutL (s : LnS) : LnS := { s with names := s.names.take 304, vers := s.vers.take 42 }
def LnIn (w : World) (l : LnC) (s : LnS) : Prop :=
 (l.kind = s.kind ∧ l.lvl = s.lvl ∧ l.first = s.first ∧ l.bits = s.bits) ∧ Row w 1 encStr l.na l.nn l.nc s.names ∧ Row w 2 encTo l.va l.vn l.vc s.vers
theorem LnIn.below {w w' : World} {l : LnC} {s : LnS} (h : LnIn w l s) (hb : Below w.heap.size w w') : LnIn w' l s := ⟨h.1, h.2.1.below hb rfl, h.2.2.below hb rfl⟩
theorem Row.takeMin {α : Type} {enc : α → List Value} {w : World} {k : Nat} {a : Option Addr} {n c : Nat} {xs : List α} (h : Row w k enc a n c xs) (K : Nat) : Row w k enc a (xs.take K).length c (xs.take K) := by
 obtain ⟨h1, h2, h3, h4, h5⟩ := h
 refine ⟨rfl, by rw [List.length_take]; omega, by rw [List.length_take]; omega, h4, fun i x hx => ?_⟩
 rw [List.getElem?_take] at hx
 split at hx
 · exact h5 i x hx
 · cases hx
theorem own12 {w : World} {l : LnC} {s : LnS} (h : LnIn w l s) : Calls Tryz.prog 13 #[valLn l] w (RetLn (cutL s) w) := by
 obtain ⟨lk, na, nn, nc, lvl, va, vn, vc, lf, bits⟩ := l
 obtain ⟨sk, xs, sl, vs, sf, sb⟩ := s
 obtain ⟨⟨q1, q2, q3, q4⟩, hn, hv⟩ := h
 simp only at q1 q2 q3 q4 hn hv
 subst q1 q2 q3 q4
 have hln := hn.len; have hlv := hv.len
 have hcn := hn.2.1; have hcv := hv.2.1
 have hmn : min (nn : Int) 304 = ((min nn 304 : Nat) : Int) := by omega
 have hmv : min (vn : Int) 42 = ((min vn 42 : Nat) : Int) := by omega
 have e1 : (xs.take 304).length = min nn 304 := by rw [List.length_take]; omega
 have e2 : (vs.take 42).length = min vn 42 := by rw [List.length_take]; omega
 obtain ⟨m, hm⟩ : ∃ m, m = min nn 304 := ⟨_, rfl⟩
 obtain ⟨j, hj⟩ : ∃ j, j = min vn 42 := ⟨_, rfl⟩
 rw [← hm] at hmn e1; rw [← hj] at hmv e2
 have hmle : m ≤ nc := by omega
 have hjle : j ≤ vc := by omega
 have hm3 : m ≤ 304 := by omega
 have hj3 : j ≤ 42 := by omega
 have HCN := hid (fun W (hb : Below w.heap.size w W) => cloneStr na nc (xs.take 304) W ((hn.takeMin 304).below hb rfl) (by omega))
 have HCV := hid (fun W (hb : Below w.heap.size w W) => cloneTo va vc (vs.take 42) W ((hv.takeMin 42).below hb rfl) (by omega))
 rw [e1] at HCN; rw [e2] at HCV
 have HB0 := hid (belowA (belowA (Below.refl w.heap.size w) (.cells #[.int .i64 lk, .slice na nn nc, .int .i64 lvl, .slice va vn vc, .bool lf, .int .i64 bits] 28)) (.cells #[.int .i64 0, .slice none 0 0, .int .i64 0, .slice none 0 0, .bool false, .int .i64 0] 28))
 have HX0 := hid ((Bx.new w #[.int .i64 lk, .slice na nn nc, .int .i64 lvl, .slice va vn vc, .bool lf, .int .i64 bits] 28).alloc (.cells #[.int .i64 0, .slice none 0 0, .int .i64 0, .slice none 0 0, .bool false, .int .i64 0] 28))
 have hy0 := Bx.new (w.alloc (.cells #[.int .i64 lk, .slice na nn nc, .int .i64 lvl, .slice va vn vc, .bool lf, .int .i64 bits] 28)) #[.int .i64 0, .slice none 0 0, .int .i64 0, .slice none 0 0, .bool false, .int .i64 0] 28
 rw [show (w.alloc (.cells #[.int .i64 lk, .slice na nn nc, .int .i64 lvl, .slice va vn vc, .bool lf, .int .i64 bits] 28)).heap.size = w.heap.size + 1 by simp] at hy0
 have HY0 := hid hy0
 have HE := hid (⟨e1, e2⟩ : _ ∧ _)
 clear hy0 hn hv hln hlv hcn hcv hm hj e1 e2
 rw [show min (nn : Int) 304 = min (nn : Int) 304 from rfl] at hmn
 go_enter Tryz.func13, Tryz.ntmps13
 go_wp2_with fail
 refine (HCN.out _ HB0.out).mono ?_
 rintro e w1 ⟨a1, c1, rfl, ho1, hb1⟩
 rw [HE.out.1] at ho1 ⊢
 have hx1 := HX0.out.keep hb1; have hy1 := HY0.out.keep hb1
 have HX1 := hid hx1; have HY1 := hid hy1
 have HB1 := hid (HB0.out.trans (hb1.mono HB0.out.size))
 have HO1 := hid (ho1.mono HB0.out.size)
 have hs0 := hb1.size
 have HS1 : Hid (w.heap.size + 2 ≤ w1.heap.size ∧ ∀ g, (Value.slice a1 m c1).ownBlock = some g → w.heap.size + 2 ≤ g) := hid (by
   have h2 : w.heap.size + 2 ≤ ((w.alloc (.cells #[.int .i64 lk, .slice na nn nc, .int .i64 lvl, .slice va vn vc, .bool lf, .int .i64 bits] 28)).alloc (.cells #[.int .i64 0, .slice none 0 0, .int .i64 0, .slice none 0 0, .bool false, .int .i64 0] 28)).heap.size := by simp
   exact ⟨Nat.le_trans h2 hs0, fun g hg => Nat.le_trans h2 (ho1.lt g hg).1⟩)
 have hcx := hx1.1; have hfx := hx1.2.1
 clear hb1 ho1 hx1 hy1 hs0
 go_wp2_with fail
 obtain ⟨V1, hV1⟩ : ∃ V1 : World, V1 = w1.setCell ⟨w.heap.size, 1, none⟩ (.slice a1 m c1) := ⟨_, rfl⟩
 have HV1 : Hid (Bx V1 w.heap.size #[.int .i64 lk, .slice a1 m c1, .int .i64 lvl, .slice va vn vc, .bool lf, .int .i64 bits] ∧ Bx V1 (w.heap.size + 1) #[.int .i64 0, .slice none 0 0, .int .i64 0, .slice none 0 0, .bool false, .int .i64 0] ∧ Below w.heap.size w V1 ∧ Own V1 w.heap.size 9 1 encStr (.slice a1 m c1) (xs.take 304) ∧ w.heap.size + 2 ≤ V1.heap.size) := hid (by
   rw [hV1]
   refine ⟨HX1.out.setC 1 (by simp) _, HY1.out.setOther _ 1 _ (by omega), HB1.out.setCell (p := ⟨w.heap.size, 1, none⟩) (Nat.le_refl _) _, HO1.out.block fun g hg => Below.heap_setCell _ _ _ _ (by have := HS1.out.2 g hg; simp; omega), by simp [World.setCell]; exact HS1.out.1⟩)
 rw [← hV1]
 clear hV1 hcx hfx
 refine (HCV.out _ HV1.out.2.2.1).mono ?_
 rintro e w2 ⟨a2, c2, rfl, ho2, hb2⟩
 rw [HE.out.2] at ho2 ⊢
 have HX2 := hid (HV1.out.1.keep hb2); have HY2 := hid (HV1.out.2.1.keep hb2)
 have HB2 := hid (HV1.out.2.2.1.trans (hb2.mono HV1.out.2.2.1.size))
 have HO1b := hid (HV1.out.2.2.2.1.below hb2 rfl)
 have HO2 := hid ho2
 have hcx := HX2.out.1; have hfx := HX2.out.2.1; have hcy := HY2.out.1; have hfy := HY2.out.2.1
 have HS2 : Hid (∀ g, (Value.slice a2 j c2).ownBlock = some g → w.heap.size + 2 ≤ g) := hid (fun g hg => Nat.le_trans HV1.out.2.2.2.2 (ho2.lt g hg).1)
 have HS1b : Hid (∀ g, (Value.slice a1 m c1).ownBlock = some g → w.heap.size + 2 ≤ g) := hid HS1.out.2
 clear hb2 ho2
 obtain ⟨V2, hV2⟩ : ∃ V2 : World, V2 = ((((((w2.setCell ⟨w.heap.size, 3, none⟩ (.slice a2 j c2)).setCell ⟨w.heap.size + 1, 0, none⟩ (.int .i64 lk)).setCell ⟨w.heap.size + 1, 1, none⟩ (.slice a1 m c1)).setCell ⟨w.heap.size + 1, 2, none⟩ (.int .i64 lvl)).setCell ⟨w.heap.size + 1, 3, none⟩ (.slice a2 j c2)).setCell ⟨w.heap.size + 1, 4, none⟩ (.bool lf)).setCell ⟨w.heap.size + 1, 5, none⟩ (.int .i64 bits) := ⟨_, rfl⟩
 have hy := ((((((HY2.out.setOther w.heap.size 3 (.slice a2 j c2) (by omega)).setC 0 (by simp) (.int .i64 lk)).setC 1 (by simp) (.slice a1 m c1)).setC 2 (by simp) (.int .i64 lvl)).setC 3 (by simp) (.slice a2 j c2)).setC 4 (by simp) (.bool lf)).setC 5 (by simp) (.int .i64 bits)
 rw [← hV2] at hy
 have HYF : Hid (Bx V2 (w.heap.size + 1) #[.int .i64 lk, .slice a1 m c1, .int .i64 lvl, .slice a2 j c2, .bool lf, .int .i64 bits]) := hid hy
 have HBF : Hid (Below w.heap.size w V2) := hid (by
   rw [hV2]
   exact ((((((HB2.out.setCell (p := ⟨w.heap.size, 3, none⟩) (Nat.le_refl _) _).setCell (p := ⟨w.heap.size + 1, 0, none⟩) (by simp) _).setCell (p := ⟨w.heap.size + 1, 1, none⟩) (by simp) _).setCell (p := ⟨w.heap.size + 1, 2, none⟩) (by simp) _).setCell (p := ⟨w.heap.size + 1, 3, none⟩) (by simp) _).setCell (p := ⟨w.heap.size + 1, 4, none⟩) (by simp) _).setCell (p := ⟨w.heap.size + 1, 5, none⟩) (by simp) _)
 have hkeep : ∀ g, w.heap.size + 2 ≤ g → V2.heap[g]? = w2.heap[g]? := fun g hg => by
   rw [hV2]
   rw [Below.heap_setCell _ _ _ _ (by simp; omega), Below.heap_setCell _ _ _ _ (by simp; omega), Below.heap_setCell _ _ _ _ (by simp; omega), Below.heap_setCell _ _ _ _ (by simp; omega), Below.heap_setCell _ _ _ _ (by simp; omega), Below.heap_setCell _ _ _ _ (by simp; omega), Below.heap_setCell _ _ _ _ (by simp; omega)]
 have HN2 : Hid (Own V2 w.heap.size 9 1 encStr (.slice a1 m c1) (xs.take 304) ∧ Own V2 w.heap.size 67 2 encTo (.slice a2 j c2) (vs.take 42)) :=
   hid ⟨HO1b.out.block fun g hg => hkeep g (HS1b.out g hg), (HO2.out.mono HV1.out.2.2.1.size).block fun g hg => hkeep g (HS2.out g hg)⟩
 clear hkeep hy
 have HV2 := hid hV2
 clear hV2
 go_wp2_with fail
 rw [← HV2.out]
 have z0 := HYF.out.1 0; have z1 := HYF.out.1 1; have z2 := HYF.out.1 2; have z3 := HYF.out.1 3; have z4 := HYF.out.1 4; have z5 := HYF.out.1 5
 refine bodyPost_ret (v := valLn ⟨lk, a1, m, c1, lvl, a2, j, c2, lf, bits⟩) (by simp [results, Tryz.results13, go_sem, z0, z1, z2, z3, z4, z5]) rfl ?_
 exact ⟨⟨lk, a1, m, c1, lvl, a2, j, c2, lf, bits⟩, rfl, ⟨⟨rfl, rfl, rfl, rfl, HE.out.1.symm, HE.out.2.symm⟩, HN2.out.1, HN2.out.2⟩, HBF.out⟩
end Yd


namespace Yd
open Go Go.RowKit Go.Proofs Go.ChangeShapes Go.WideShapes Go.ChangeAt
open Go.Proofs.YthdpangjphphjaaGreatDoor.Rows (uptoBulk uptoBulkAll)

section
variable {H : Type} {enc : TypeId × Value → H} {w : World} {base : Nat} {spare : Nat → Bool} {held : Bool} {N : Nat}
theorem c_to : Tryz.prog.cellsOf 67 = 2 := by kernel_rfl
theorem c_ln : Tryz.prog.cellsOf 28 = 6 := by kernel_rfl
theorem c_sto : Tryz.prog.cellsOf 26 = 1 := by kernel_rfl
theorem rd_to : RdAs enc w base spare held N 67 encTo (fun _ => True) := fun n cs y h _ => by
 obtain ⟨xs, n', _, rfl, hl, hlen, hf⟩ := DataW.trod_struct Tryz.underlying67 h
 rw [c_to] at hl
 match xs, hlen, cs, hl with
 | [y0, y1], _, [c0, c1], _ =>
   have f0 := hf 0 _ rfl
   have f1 := hf 1 _ rfl
   simp [c_int, c_str] at f0 f1
   obtain ⟨a, e0, _⟩ := DataW.trod_string Tryz.underlying9 f0
   obtain ⟨b, e1, _⟩ := DataW.trod_int Tryz.underlying3 f1
   simp at e0 e1
   exact ⟨⟨a.data.toList, b⟩, by rw [e0, e1]; simp [encTo], trivial⟩
theorem down_line {n : Nat} {cs : List Value} {y : DataW H × List MemPlace} (h : DataW.trod enc Tryz.prog w base spare held n 28 cs = some y) (hb : uptoBulk y.1 ≤ 1048576) :
   ∃ (l : LnC) (s : LnS), cs = (cellsLn l).toList ∧ LnIn w l s := by
 obtain ⟨xs, n', _, rfl, hl, hlen, hf⟩ := DataW.trod_struct Tryz.underlying28 h
 rw [c_ln] at hl
 match xs, hlen, cs, hl, hb with
 | [y0, y1, y2, y3, y4, y5], _, [c0, c1, c2, c3, c4, c5], _, hb =>
   simp only [List.map_cons, List.map_nil, uptoBulk, uptoBulkAll] at hb
   have f0 := hf 0 _ rfl
   have f1 := hf 1 _ rfl
   have f2 := hf 2 _ rfl
   have f3 := hf 3 _ rfl
   have f4 := hf 4 _ rfl
   have f5 := hf 5 _ rfl
   simp [c_int, c_sstr, c_sto, c_bool] at f0 f1 f2 f3 f4 f5
   obtain ⟨a0, e0, _⟩ := DataW.trod_int Tryz.underlying3 f0
   obtain ⟨s1, l1, e1, r1, b1, _⟩ := down_slice (hc := cInsStr) (N := 1048576) (by decide) Tryz.underlying25 c_str rd_str f1 (by omega)
   obtain ⟨a2, e2, _⟩ := DataW.trod_int Tryz.underlying3 f2
   obtain ⟨s3, l3, e3, r3, b3, _⟩ := down_slice (hc := cInsTo) (N := 1048576) (by decide) Tryz.underlying26 c_to rd_to f3 (by omega)
   obtain ⟨a4, e4⟩ := rd_bool f4
   obtain ⟨a5, e5, _⟩ := DataW.trod_int Tryz.underlying3 f5
   simp at e0 e1 e2 e3 e4 e5
   exact ⟨⟨a0, s1.a, s1.n, s1.c, a2, s3.a, s3.n, s3.c, a4, a5⟩, ⟨a0, l1, a2, l3, a4, a5⟩, by rw [e0, e1, e2, e3, e4, e5], ⟨rfl, rfl, rfl, rfl⟩, r1, r3⟩
end
end Yd


namespace Yd
open Go
section
variable {P : Program} {ops : Array Oper} {Q : Exit → Act → World → Prop} {R S : World → Prop} {cut : Nat} {RP : List PanicEntry → World → Prop} {D : List Deferred}
def laxQ (Q : Exit → Act → World → Prop) (D : List Deferred) (RP : List PanicEntry → World → Prop) : Exit → Act → World → Prop
 | .outgrown, _, _ => False
 | .panic c, a, w => a.defers = D ∧ RP c w
 | .normal, a, w => Q .normal a w
 | .ret, a, w => Q .ret a w
 | .exit id, a, w => Q (.exit id) a w
 | .goto t, a, w => Q (.goto t) a w
theorem laxQ_of (hP : ∀ c a w, a.defers = D → RP c w → Q (.panic c) a w) (e : Exit) (a : Act) (w : World) (h : laxQ Q D RP e a w) : Q e a w := by
 cases e <;> first | exact h | exact h.elim | exact hP _ _ _ h.1 h.2
theorem laxQ_p : ∀ d v c a w, laxQ Q D RP (.panic c) (Act.put a d v) w → laxQ Q D RP (.panic c) a w := fun d _ _ _ _ h => by cases d <;> exact h
theorem wp_region_ordP {id : Nat} {a : Act} {w : World} {l : List Oper} (cut : Nat) (ord : List (Nat × Nat)) (R S : World → Prop) (RP : List PanicEntry → World → Prop) (hm : P.follows .mixedOrders = true)
   (hB : (Region.noSelect l.toArray && decide (ord.length = l.length) && okOrdC .any l.toArray cut ord true (Array.replicate l.toArray.size false)) = true)
   (hP : ∀ c a' w', a'.defers = a.defers → RP c w' → Q (.panic c) a' w')
   (hR : R w.drew) (hS : S w.drew) (h : wpOrdC P l.toArray (laxQ Q a.defers RP) R S cut ord a w.drew) : (Code.region id l.toArray true).wp P Q a w := by
 simp only [Bool.and_eq_true, decide_eq_true_eq] at hB
 obtain ⟨⟨hs, hl⟩, ho⟩ := hB
 refine wp_mono (Q := laxQ Q a.defers RP) (wp_region_any hm (wpAny_of_T (T := ThenS cut R S) _ _ _ _ ?_)) (laxQ_of hP)
 have := wpAnyT_of_ord (md := .any) (Q := laxQ Q a.defers RP) hs laxQ_p ord true _ a _ ho hR (fun _ => hS) h
 rw [hl] at this
 simpa using this
theorem ordP_nil {a : Act} {w : World} (h : Q .normal a w) : wpOrdC P ops (laxQ Q D RP) R S cut [] a w := h
end
end Yd
