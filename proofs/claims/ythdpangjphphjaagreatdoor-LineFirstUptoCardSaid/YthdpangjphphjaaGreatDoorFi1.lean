import Derived.Test.YthdpangjphphjaaGreatDoorBk13
import Derived.Test.YthdpangjphphjaaGreatDoorProg
set_option maxRecDepth 200000
set_option maxHeartbeats 8000000
namespace Yd
open Go Go.RowKit Go.Proofs

/-! What is read depends on what has been gone over, and on the head of what is left. -/
def restE {α : Type} : Except Er (α × Bs) → Bs
 | .ok (_, r) => r
 | .error (r, _) => r
def putE {α : Type} : Except Er (α × Bs) → Bs → Except Er (α × Bs)
 | .ok (v, _), y => .ok (v, y)
 | .error (_, e), y => .error (y, e)
def Fair {α : Type} (r : Except Er (α × Bs)) : Prop := ∀ x e, r = .error (x, e) → e = 220
def EndR {α : Type} (r : Except Er (α × Bs)) : Prop := (∃ v, r = .ok (v, [])) ∨ r = .error ([], 220)
def NoCut (t : Bs) : Prop := ∀ i, i < t.length → ∀ x, okB ⟨(t.drop i ++ x).toArray⟩ 0 = true → (Utf8.decode ⟨(t.drop i ++ x).toArray⟩ 0).2 ≤ (t.drop i).length
theorem NoCut.suf {a b : Bs} (h : NoCut (a ++ b)) : NoCut b := fun i hi x hx => by
 have e : (a ++ b).drop (a.length + i) = b.drop i := by rw [← List.drop_drop, List.drop_left]
 have := h (a.length + i) (by rw [List.length_append]; omega) x (by rw [e]; exact hx)
 rw [e] at this; exact this
theorem NoCut.nil : NoCut [] := fun i hi => by cases hi
def LawA {α : Type} (F : Bs → Except Er (α × Bs)) (l : Bs) : Prop := ∃ a, l = a ++ restE (F l) ∧ (∀ y, y.head? = (restE (F l)).head? → F (a ++ y) = putE (F l) y) ∧ ∀ b, b <+: a → EndR (F b)
def LawC {α : Type} (C : Prop) (F : Bs → Except Er (α × Bs)) (l : Bs) : Prop := C → ∃ a, l = a ++ restE (F l) ∧ (∀ c x, (restE (F l)).head? = some c → c.toNat < 128 → F (a ++ c :: x) = putE (F l) (c :: x)) ∧ ∀ b, b <+: a → NoCut b → EndR (F b)
def LawB {α : Type} (F : Bs → Except Er (α × Bs)) (l : Bs) : Prop := LawC (Fair (F l)) F l
theorem LawA.b {α : Type} {F : Bs → Except Er (α × Bs)} {l : Bs} (h : LawA F l) : LawB F l := fun _ => by
 obtain ⟨a, h1, h2, h3⟩ := h
 exact ⟨a, h1, fun c x hc _ => h2 (c :: x) hc.symm, fun b hb _ => h3 b hb⟩
def bindS {α β : Type} (F : Bs → Except Er (α × Bs)) (G : α → Bs → Except Er (β × Bs)) (l : Bs) : Except Er (β × Bs) :=
 match F l with
 | .error x => .error x
 | .ok (v, r) => G v r
theorem pre_app {b a c : Bs} (h : b <+: a ++ c) : b <+: a ∨ ∃ d, b = a ++ d ∧ d <+: c ∧ d ≠ [] := by
 obtain ⟨t, ht⟩ := h
 rcases List.append_eq_append_iff.1 ht with ⟨z, hz, _⟩ | ⟨z, hz, hz2⟩
 · exact .inl ⟨z, hz.symm⟩
 · by_cases hn : z = []
   · subst hn; exact .inl (by rw [hz, List.append_nil]; exact List.prefix_refl _)
   · exact .inr ⟨z, hz, ⟨t, hz2.symm⟩, hn⟩
theorem pre_head {b a : Bs} (h : b <+: a) (hb : b ≠ []) (r : Bs) : b.head? = (a ++ r).head? := by
 obtain ⟨t, rfl⟩ := h
 cases b with
 | nil => exact absurd rfl hb
 | cons x b => rfl
theorem end_bind {α β : Type} {F : Bs → Except Er (α × Bs)} {G : α → Bs → Except Er (β × Bs)} {b : Bs} (h : EndR (F b)) (hG : ∀ v, EndR (G v [])) : EndR (bindS F G b) := by
 unfold bindS
 rcases h with ⟨v, h⟩ | h
 · rw [h]; exact hG v
 · rw [h]; exact .inr rfl
theorem app_head (a2 : Bs) (c : UInt8) (x y : Bs) (h : y.head? = some c) : (a2 ++ c :: x).head? = (a2 ++ y).head? := by
 cases a2 with
 | nil => exact h.symm
 | cons => rfl
theorem LawC.bindA {α β : Type} {F : Bs → Except Er (α × Bs)} {G : α → Bs → Except Er (β × Bs)} {l : Bs} {C : Prop} (hF : LawA F l) (hG : ∀ v r, F l = .ok (v, r) → LawC C (G v) r) (h0 : ∀ v, EndR (G v [])) : LawC C (bindS F G) l := fun hC => by
 obtain ⟨a, ha, hl, hp⟩ := hF
 cases hf : F l with
 | error x =>
   obtain ⟨r, e⟩ := x
   have hb : bindS F G l = .error (r, e) := by unfold bindS; rw [hf]
   rw [hf] at ha hl
   rw [hb]
   refine ⟨a, ha, fun c x hc _ => ?_, fun b hbp _ => end_bind (hp b hbp) h0⟩
   have := hl (c :: x) hc.symm
   unfold bindS; rw [this]; rfl
 | ok x =>
   obtain ⟨v, r⟩ := x
   have hb : bindS F G l = G v r := by unfold bindS; rw [hf]
   rw [hf] at ha hl
   obtain ⟨a2, ha2, hl2, hp2⟩ := hG v r hf hC
   have har : l = a ++ r := ha
   rw [hb]
   refine ⟨a ++ a2, by rw [List.append_assoc, ← ha2]; exact har, fun c x hc hc2 => ?_, fun b hbp hn => ?_⟩
   · have h1 : F (a ++ (a2 ++ c :: x)) = .ok (v, a2 ++ c :: x) := hl _ (by show (a2 ++ c :: x).head? = r.head?; rw [app_head a2 c x _ hc, ← ha2])
     unfold bindS
     rw [List.append_assoc, h1]
     exact hl2 c x hc hc2
   · rcases pre_app hbp with hb1 | ⟨d, rfl, hd, hdn⟩
     · exact end_bind (hp b hb1) h0
     · have h1 : F (a ++ d) = .ok (v, d) := hl d (by show d.head? = r.head?; rw [ha2]; exact pre_head hd hdn _)
       unfold bindS
       rw [h1]
       exact hp2 d hd hn.suf
theorem LawC.bindB {α β : Type} {F : Bs → Except Er (α × Bs)} {G : α → Bs → Except Er (β × Bs)} {l : Bs} {C : Prop} (hC' : C → Fair (bindS F G l)) (hF : LawB F l) (hG : ∀ v r, F l = .ok (v, r) → LawC C (G v) r) (h0 : ∀ v, EndR (G v []))
   (hs : ∀ v c t, F l = .ok (v, c :: t) → 128 ≤ c.toNat → restE (G v (c :: t)) = c :: t) : LawC C (bindS F G) l := fun hC => by
 have hfair : Fair (F l) := fun x e he => hC' hC x e (by unfold bindS; rw [he])
 obtain ⟨a, ha, hl, hp⟩ := hF hfair
 cases hf : F l with
 | error x =>
   obtain ⟨r, e⟩ := x
   have hb : bindS F G l = .error (r, e) := by unfold bindS; rw [hf]
   rw [hf] at ha hl
   rw [hb]
   refine ⟨a, ha, fun c x hc hc2 => ?_, fun b hbp hn => end_bind (hp b hbp hn) h0⟩
   have := hl c x hc hc2
   unfold bindS; rw [this]; rfl
 | ok x =>
   obtain ⟨v, r⟩ := x
   have hb : bindS F G l = G v r := by unfold bindS; rw [hf]
   rw [hf] at ha hl
   obtain ⟨a2, ha2, hl2, hp2⟩ := hG v r hf hC
   have har : l = a ++ r := ha
   rw [hb]
   refine ⟨a ++ a2, by rw [List.append_assoc, ← ha2]; exact har, fun c x hc hc2 => ?_, fun b hbp hn => ?_⟩
   · have hlow : ∀ d, r.head? = some d → d.toNat < 128 := fun d hd => by
       apply Classical.byContradiction
       intro hge
       cases r with
       | nil => cases hd
       | cons d' t =>
         obtain rfl : d' = d := Option.some.inj hd
         have := hs v d' t hf (by omega)
         rw [this] at hc
         obtain rfl : d' = c := Option.some.inj hc
         exact hge hc2
     have h1 : F (a ++ (a2 ++ c :: x)) = .ok (v, a2 ++ c :: x) := by
       have hh : (a2 ++ c :: x).head? = r.head? := by rw [app_head a2 c x _ hc, ← ha2]
       cases hy : a2 ++ c :: x with
       | nil => simp at hy
       | cons d z =>
         rw [hy] at hh
         exact hl d z hh.symm (hlow d hh.symm)
     unfold bindS
     rw [List.append_assoc, h1]
     exact hl2 c x hc hc2
   · rcases pre_app hbp with hb1 | ⟨d, rfl, hd, hdn⟩
     · exact end_bind (hp b hb1 (by exact hn)) h0
     · have hh : d.head? = r.head? := by rw [ha2]; exact pre_head hd hdn _
       have h1 : F (a ++ d) = .ok (v, d) := by
         cases d with
         | nil => exact absurd rfl hdn
         | cons d0 z =>
           refine hl d0 z hh.symm ?_
           apply Classical.byContradiction
           intro hge
           cases hr : r with
           | nil => rw [hr] at hh; cases hh
           | cons d' t =>
             rw [hr] at hh hf ha2
             obtain rfl : d0 = d' := Option.some.inj hh
             have hab := hs v d0 t hf (by omega)
             rw [hab] at ha2
             have e := congrArg List.length ha2
             rw [List.length_append] at e
             have : a2 = [] := List.length_eq_zero_iff.1 (by omega)
             subst this
             obtain ⟨z2, hz2⟩ := hd
             cases hz2
       unfold bindS
       rw [h1]
       exact hp2 d hd hn.suf
theorem LawC.congr {α : Type} {F K : Bs → Except Er (α × Bs)} {l : Bs} {C : Prop} (h : ∀ y, y ≠ [] → y.head? = l.head? → F y = K y) (hl : F l = K l) (h0 : EndR (F [])) (hK : LawC C K l) : LawC C F l := fun hC => by
 obtain ⟨a, ha, hl2, hp⟩ := hK hC
 rw [hl]
 refine ⟨a, ha, fun c x hc hc2 => ?_, fun b hb hn => ?_⟩
 · rw [h (a ++ c :: x) (by simp) (by rw [app_head a c x _ hc, ← ha])]
   exact hl2 c x hc hc2
 · by_cases hbn : b = []
   · subst hbn; exact h0
   · rw [h b hbn (by rw [ha]; exact pre_head hb hbn _)]
     exact hp b hb hn
theorem LawC.cons {α : Type} {F K : Bs → Except Er (α × Bs)} {d : UInt8} {t : Bs} {C : Prop} (h : ∀ y, F (d :: y) = K y) (h0 : EndR (F [])) (hK : LawC C K t) : LawC C F (d :: t) := fun hC => by
 obtain ⟨a, ha, hl2, hp⟩ := hK hC
 rw [h]
 refine ⟨d :: a, by rw [List.cons_append, ← ha], fun c x hc hc2 => ?_, fun b hb hn => ?_⟩
 · rw [List.cons_append, h]; exact hl2 c x hc hc2
 · cases b with
   | nil => exact h0
   | cons b0 b1 =>
     obtain ⟨rfl, hb1⟩ := List.cons_prefix_cons.1 hb
     rw [h]
     exact hp b1 hb1 (NoCut.suf (a := [b0]) hn)
theorem LawC.ok {α : Type} (v : α) (l : Bs) (C : Prop) : LawC C (fun r => (.ok (v, r) : Except Er (α × Bs))) l := fun _ => ⟨[], rfl, fun c x _ _ => rfl, fun b hb _ => by
 have : b = [] := List.prefix_nil.1 hb
 subst this; exact .inl ⟨v, rfl⟩⟩
theorem LawC.err {α : Type} (l : Bs) (C : Prop) : LawC C (fun r => (.error (r, 220) : Except Er (α × Bs))) l := fun _ => ⟨[], rfl, fun c x _ _ => rfl, fun b hb _ => by
 have : b = [] := List.prefix_nil.1 hb
 subst this; exact .inr rfl⟩
/-! Over blanks. -/
theorem ends_head {y z : Bs} (h : y.head? = z.head?) : endsS y = endsS z := by unfold endsS; rw [h]
theorem skip_split (l : Bs) : l = l.takeWhile blB ++ skipS l := (List.takeWhile_append_dropWhile).symm
theorem twl_all (q : UInt8 → Bool) : ∀ (l : Bs), ∀ c ∈ l.takeWhile q, q c = true
 | [], c, h => by cases h
 | b :: t, c, h => by
   rw [List.takeWhile_cons] at h
   split at h
   · rename_i hb
     rcases List.mem_cons.1 h with rfl | h
     · exact hb
     · exact twl_all q t c h
   · cases h
theorem dw_hd (q : UInt8 → Bool) : ∀ (l : Bs) (c : UInt8), (l.dropWhile q).head? = some c → q c = false
 | [], c, h => by cases h
 | b :: t, c, h => by
   rw [List.dropWhile_cons] at h
   split at h
   · exact dw_hd q t c h
   · rename_i hb
     obtain rfl : b = c := Option.some.inj h
     simpa using hb
theorem skip_put (l y : Bs) (h : y.head? = (skipS l).head?) : skipS (l.takeWhile blB ++ y) = y := by
 rw [skipS_app _ _ (twl_all blB l)]
 exact skip_stays fun c t hc => dw_hd blB l c (by rw [show l.dropWhile blB = skipS l from rfl, ← h, hc]; rfl)
theorem pre_bl {l b : Bs} (h : b <+: l.takeWhile blB) : ∀ c ∈ b, blB c = true := fun c hc => twl_all blB l c (h.subset hc)
theorem more_law (l : Bs) : LawA moreS l := by
 have hr : restE (moreS l) = skipS l := by
   unfold moreS; split
   · rfl
   · split <;> rfl
 refine ⟨l.takeWhile blB, by rw [hr]; exact skip_split l, fun y hy => ?_, fun b hb => ?_⟩
 · rw [hr] at hy
   have hs := skip_split l
   have hlen := congrArg List.length hs
   rw [List.length_append] at hlen
   unfold moreS
   rw [skip_put l y hy, ends_head hy]
   by_cases he : endsS (skipS l) = true
   · rw [if_pos he, if_pos he]; rfl
   · rw [if_neg he, if_neg he, List.length_append]
     by_cases h0 : (skipS l).length = l.length
     · rw [if_pos h0, if_pos (by omega)]; rfl
     · rw [if_neg h0, if_neg (by omega)]; rfl
 · have := more_end (b := b) (e := []) (pre_bl hb) rfl
   rw [List.append_nil] at this
   exact .inl ⟨false, this⟩
def skR (l : Bs) : Except Er (Bool × Bs) := .ok (endsS (skipS l), skipS l)
theorem sk_law (l : Bs) : LawA skR l := by
 refine ⟨l.takeWhile blB, skip_split l, fun y hy => ?_, fun b hb => ?_⟩
 · unfold skR
   rw [skip_put l y hy, ends_head hy]; rfl
 · have h1 : skipS b = [] := by
     have := skipS_app b [] (pre_bl hb)
     rw [List.append_nil] at this; exact this
   exact .inl ⟨true, by unfold skR; rw [h1]; rfl⟩
def mustU (l : Bs) : Except Er (Unit × Bs) := bindS moreS (fun b r => if b = true then .ok ((), r) else .error (r, 220)) l
theorem must_bind {β : Type} (G : Bs → Except Er (β × Bs)) (l : Bs) : (match mustS l with | .error x => .error x | .ok r => G r) = bindS mustU (fun _ => G) l := by
 unfold bindS mustU bindS mustS
 cases moreS l with
 | error x => rfl
 | ok x =>
   obtain ⟨b, r⟩ := x
   cases b <;> rfl
theorem mustU_err {l : Bs} {x : Er} (h : moreS l = .error x) : mustU l = .error x := by unfold mustU bindS; rw [h]
theorem mustU_ok {l : Bs} {b : Bool} {r : Bs} (h : moreS l = .ok (b, r)) : mustU l = (if b = true then .ok ((), r) else .error (r, 220)) := by unfold mustU bindS; rw [h]
theorem mustU_end {b : Bs} (h : EndR (moreS b)) : EndR (mustU b) := by
 rcases h with ⟨v, h⟩ | h
 · rw [mustU_ok h]
   cases v
   · exact .inr rfl
   · exact .inl ⟨(), rfl⟩
 · rw [mustU_err h]; exact .inr rfl
theorem must_law (l : Bs) : LawA mustU l := by
 obtain ⟨a, ha, hl, hp⟩ := more_law l
 cases hm : moreS l with
 | error x =>
   obtain ⟨r, e⟩ := x
   rw [hm] at ha hl
   have h1 := mustU_err hm
   refine ⟨a, by rw [h1]; exact ha, fun y hy => ?_, fun b hb => mustU_end (hp b hb)⟩
   rw [h1] at hy ⊢
   exact mustU_err (hl y hy)
 | ok x =>
   obtain ⟨v, r⟩ := x
   rw [hm] at ha hl
   have h1 := mustU_ok hm
   refine ⟨a, by rw [h1]; cases v <;> exact ha, fun y hy => ?_, fun b hb => mustU_end (hp b hb)⟩
   rw [h1] at hy ⊢
   have h2 := mustU_ok (hl y (by cases v <;> exact hy))
   rw [h2]
   cases v <;> rfl
theorem hi_no {c : UInt8} (h : 128 ≤ c.toNat) : blB c = false ∧ ∀ t, endsS (c :: t) = false := by
 constructor
 · unfold blB
   rw [Bool.or_eq_false_iff]
   exact ⟨beq_eq_false_iff_ne.2 (fun e => by rw [e] at h; exact absurd h (by decide)), beq_eq_false_iff_ne.2 (fun e => by rw [e] at h; exact absurd h (by decide))⟩
 · intro t
   rw [endsS_cons, beq_eq_false_iff_ne.2 (by omega), beq_eq_false_iff_ne.2 (by omega)]; rfl
theorem more_hi {c : UInt8} (t : Bs) (h : 128 ≤ c.toNat) : moreS (c :: t) = .error (c :: t, 220) := by
 have := hi_no h
 unfold moreS
 rw [skipS_cons_no this.1, this.2 t, if_neg (by simp), if_pos rfl]
theorem must_hi {c : UInt8} (t : Bs) (h : 128 ≤ c.toNat) : mustU (c :: t) = .error (c :: t, 220) := by unfold mustU bindS; rw [more_hi t h]
theorem bind_hi {α β : Type} {F : Bs → Except Er (α × Bs)} {G : α → Bs → Except Er (β × Bs)} {c : UInt8} {t : Bs} (h : F (c :: t) = .error (c :: t, 220)) : restE (bindS F G (c :: t)) = c :: t := by unfold bindS; rw [h]; rfl
theorem bind_nil {α β : Type} {F : Bs → Except Er (α × Bs)} {G : α → Bs → Except Er (β × Bs)} (h : F [] = .error ([], 220)) : EndR (bindS F G []) := by unfold bindS; rw [h]; exact .inr rfl
end Yd
