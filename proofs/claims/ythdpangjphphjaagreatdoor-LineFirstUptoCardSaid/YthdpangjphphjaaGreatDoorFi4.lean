import Derived.Test.YthdpangjphphjaaGreatDoorFi2
import Derived.Test.YthdpangjphphjaaGreatDoorProg
set_option maxRecDepth 200000
set_option maxHeartbeats 8000000
namespace Yd
open Go Go.RowKit Go.Proofs

/-! A version. -/
theorem fold_up : ∀ (y : Bs) (n : Nat), n ≤ y.foldl (fun n (c : UInt8) => n * 10 + (c.toNat - 48)) n
 | [], n => Nat.le_refl _
 | c :: y, n => by
   rw [List.foldl_cons]
   have := fold_up y (n * 10 + (c.toNat - 48))
   omega
theorem val_pre {b a : Bs} (h : b <+: a) : valD b ≤ valD a := by
 obtain ⟨y, rfl⟩ := h
 unfold valD
 rw [List.foldl_append]
 exact fold_up y _
theorem tw_app {q : UInt8 → Bool} {u r : Bs} (hu : ∀ c ∈ u, q c = true) (hr : ∀ c, r.head? = some c → q c = false) : (u ++ r).takeWhile q = u := by
 rw [List.takeWhile_append_of_pos hu]
 cases r with
 | nil => simp
 | cons c t => rw [List.takeWhile_cons, hr c rfl]; simp
theorem numV_law (nm l : Bs) : LawB (numV nm) l := fun hfair => by
 obtain ⟨ds, hds⟩ : ∃ ds, ds = l.takeWhile digB := ⟨_, rfl⟩
 have hall : ∀ c ∈ ds, digB c = true := by rw [hds]; exact twl_all digB l
 have hsp : l = ds ++ l.dropWhile digB := by rw [hds]; exact (List.takeWhile_append_dropWhile).symm
 have hdr : l.drop ds.length = l.dropWhile digB := by
   rw [show l.drop ds.length = (ds ++ l.dropWhile digB).drop ds.length by rw [← hsp], List.drop_left]
 have hhd : ∀ c, (l.dropWhile digB).head? = some c → digB c = false := dw_hd digB l
 by_cases hbad : ds.head? = none ∨ ds.head? = some 48
 · have hres : numV nm l = .error (l, 220) := by unfold numV; simp only []; rw [← hds, if_pos hbad]
   rw [hres]
   refine ⟨[], rfl, fun c x hc hc2 => ?_, fun b hb _ => ?_⟩
   · have hlc : l.head? = some c := hc
     rw [List.nil_append]
     unfold numV
     simp only []
     rw [if_pos]
     · rfl
     cases l with
     | nil => cases hlc
     | cons d t =>
       obtain rfl : d = c := Option.some.inj hlc
       rw [List.takeWhile_cons] at hds ⊢
       cases hd : digB d
       · exact .inl rfl
       · rw [hd] at hds
         rw [hds] at hbad
         rcases hbad with h | h
         · cases h
         · exact .inr h
   · have : b = [] := List.prefix_nil.1 hb
     subst this; exact .inr rfl
 · by_cases h9 : 999 < valD ds
   · have hres : numV nm l = .error (l, 3) := by unfold numV; simp only []; rw [← hds, if_neg hbad, if_pos h9]
     exact absurd (hfair _ _ hres) (by decide)
   · have hres : numV nm l = .ok (⟨nm, valD ds⟩, l.drop ds.length) := by unfold numV; simp only []; rw [← hds, if_neg hbad, if_neg h9]
     rw [hres]
     refine ⟨ds, by show l = ds ++ l.drop ds.length; rw [hdr]; exact hsp, fun c x hc hc2 => ?_, fun b hb _ => ?_⟩
     · have hc' : (l.dropWhile digB).head? = some c := by rw [← hdr]; exact hc
       have htw : (ds ++ c :: x).takeWhile digB = ds := tw_app hall (fun d hd => by obtain rfl : c = d := Option.some.inj hd; exact hhd c hc')
       unfold numV
       simp only []
       rw [htw, if_neg hbad, if_neg h9, List.drop_left]; rfl
     · by_cases hb0 : b = []
       · subst hb0; exact .inr rfl
       · have hbw : ∀ c ∈ b, digB c = true := fun c hc => hall c (hb.subset hc)
         have htw : b.takeWhile digB = b := by have := tw_app (q := digB) (u := b) (r := []) hbw (by simp); rwa [List.append_nil] at this
         have hh : b.head? = ds.head? := by have := pre_head hb hb0 []; rwa [List.append_nil] at this
         left
         refine ⟨⟨nm, valD b⟩, ?_⟩
         unfold numV
         simp only []
         have := val_pre hb
         rw [htw, hh, if_neg hbad, if_neg (by omega), List.drop_length]
theorem vers_law (l : Bs) : LawB versS l := by
 by_cases h45 : l.head? = some 45
 · cases l with
   | nil => cases h45
   | cons d t =>
     obtain rfl : d = 45 := Option.some.inj h45
     intro _
     have hres : ∀ y : Bs, versS (45 :: y) = .ok (⟨[], 0⟩, y) := fun y => rfl
     rw [hres]
     refine ⟨[45], rfl, fun c x _ _ => rfl, fun b hb _ => ?_⟩
     cases b with
     | nil => exact .inr rfl
     | cons b0 b1 =>
       obtain ⟨rfl, hb1⟩ := List.cons_prefix_cons.1 hb
       have : b1 = [] := List.prefix_nil.1 hb1
       subst this; exact .inl ⟨_, rfl⟩
 · have hK : ∀ y : Bs, y.head? ≠ some 45 → versS y = bindS nameS (fun nm r => if r.head? = some 46 then numV nm r.tail else .error (r, 220)) y := fun y hy => by
     unfold versS bindS
     rw [if_neg hy]
     cases nameS y with
     | error x => rfl
     | ok x => rfl
   intro hfair
   refine LawC.congr (C := True) (F := versS) (K := bindS nameS (fun nm r => if r.head? = some 46 then numV nm r.tail else .error (r, 220))) (fun y _ hy => hK y (by rw [hy]; exact h45)) (hK l h45) (.inr rfl) ?_ trivial
   refine LawC.bindB (fun _ => by rw [← hK l h45]; exact hfair) (name_law l) (fun nm r hr => ?_) (fun v => .inr rfl) (fun v c t _ hc => ?_)
   · by_cases h46 : r.head? = some 46
     · cases r with
       | nil => cases h46
       | cons d t =>
         obtain rfl : d = 46 := Option.some.inj h46
         refine LawC.cons (K := numV nm) (fun y => rfl) (.inr rfl) (fun _ => numV_law nm t ?_)
         intro x e he
         refine hfair x e ?_
         rw [hK l h45]; unfold bindS; rw [hr]; exact he
     · refine LawC.congr (K := fun r => .error (r, 220)) (fun y _ hy => ?_) ?_ (.inr rfl) (LawC.err r _)
       · show (if y.head? = some 46 then numV nm y.tail else Except.error (y, (220 : Int))) = _
         rw [hy, if_neg h46]
       · show (if r.head? = some 46 then numV nm r.tail else Except.error (r, (220 : Int))) = _
         rw [if_neg h46]
   · have : (c :: t : Bs).head? ≠ some 46 := fun e => by have := Option.some.inj e; rw [this] at hc; exact absurd hc (by decide)
     show restE (if (c :: t : Bs).head? = some 46 then numV v (c :: t : Bs).tail else Except.error (c :: t, (220 : Int))) = _
     rw [if_neg this]; rfl
/-! Names, guarantees. -/
theorem fair_of {α β : Type} {F : Bs → Except Er (α × Bs)} {G : α → Bs → Except Er (β × Bs)} {l r : Bs} {v : α} (hf : F l = .ok (v, r)) (h : Fair (bindS F G l)) : Fair (G v r) := by
 unfold bindS at h; rw [hf] at h; exact h
theorem LawB.bindA {α β : Type} {F : Bs → Except Er (α × Bs)} {G : α → Bs → Except Er (β × Bs)} {l : Bs} (hF : LawA F l) (hG : ∀ v r, F l = .ok (v, r) → LawB (G v) r) (h0 : ∀ v, EndR (G v [])) : LawB (bindS F G) l := fun hfair =>
 LawC.bindA (C := True) hF (fun v r hr _ => hG v r hr (fair_of hr hfair)) h0 trivial
theorem LawB.bindB {α β : Type} {F : Bs → Except Er (α × Bs)} {G : α → Bs → Except Er (β × Bs)} {l : Bs} (hF : LawB F l) (hG : ∀ v r, F l = .ok (v, r) → LawB (G v) r) (h0 : ∀ v, EndR (G v []))
   (hs : ∀ v c t, F l = .ok (v, c :: t) → 128 ≤ c.toNat → restE (G v (c :: t)) = c :: t) : LawB (bindS F G) l := fun hfair =>
 LawC.bindB (C := True) (fun _ => hfair) hF (fun v r hr _ => hG v r hr (fair_of hr hfair)) h0 hs trivial
theorem LawB.same {α : Type} {F K : Bs → Except Er (α × Bs)} {l : Bs} (h : ∀ y, F y = K y) (hK : LawB K l) : LawB F l := by
 have : F = K := funext h
 subst this; exact hK
theorem LawB.ok {α : Type} (v : α) (l : Bs) : LawB (fun r => (.ok (v, r) : Except Er (α × Bs))) l := LawC.ok v l _
theorem names_eq (k : Nat) (acc : List Bs) (l : Bs) : namesS (k + 1) acc l = bindS mustU (fun _ => bindS nameS (fun nm => namesS k (acc ++ [nm]))) l := by
 rw [← must_bind, namesS]
 cases mustS l with
 | error x => rfl
 | ok r =>
   simp only []
   unfold bindS
   cases nameS r with
   | error x => rfl
   | ok x => rfl
theorem names_nil : ∀ (k : Nat) (acc : List Bs), EndR (namesS k acc [])
 | 0, acc => .inl ⟨acc, rfl⟩
 | _k + 1, _acc => .inr rfl
theorem names_hi : ∀ (k : Nat) (acc : List Bs) (c : UInt8) (t : Bs), 128 ≤ c.toNat → restE (namesS k acc (c :: t)) = c :: t
 | 0, acc, c, t, _ => rfl
 | k + 1, acc, c, t, h => by rw [names_eq]; exact bind_hi (must_hi t h)
theorem names_law : ∀ (k : Nat) (acc : List Bs) (l : Bs), LawB (namesS k acc) l
 | 0, acc, l => LawB.ok acc l
 | k + 1, acc, l => LawB.same (names_eq k acc) (LawB.bindA (must_law l) (fun _ r _ => LawB.bindB (name_law r) (fun nm r' _ => names_law k (acc ++ [nm]) r') (fun _nm => names_nil k _) (fun _nm c t _ hc => names_hi k _ c t hc)) (fun _ => .inr rfl))
theorem guard_no_nil (k : Nat) : [] ∉ guardL.drop k := fun h => absurd (List.mem_of_mem_drop h) (by decide)
theorem guard_wcs (k : Nat) : ∀ w ∈ guardL.drop k, ∀ c ∈ w, wcB c = true := wc_guard k
theorem guar_eq (f k : Nat) (b : Int) (l : Bs) : guarS (f + 1) k b l = bindS moreS (fun m => if m = true then bindS (wordS (guardL.drop k)) (fun i => guarS f (k + i + 1) (b + 2 ^ (k + i))) else fun r => .ok (b, r)) l := by
 rw [guarS]
 unfold bindS
 cases moreS l with
 | error x => rfl
 | ok x =>
   obtain ⟨m, r⟩ := x
   cases m
   · rfl
   · simp only [if_true]
     cases wordS (guardL.drop k) r with
     | error x => rfl
     | ok x => rfl
theorem guar_hi : ∀ (f k : Nat) (b : Int) (c : UInt8) (t : Bs), 128 ≤ c.toNat → restE (guarS f k b (c :: t)) = c :: t
 | 0, _, _, c, t, _ => rfl
 | f + 1, k, b, c, t, h => by rw [guar_eq]; exact bind_hi (more_hi t h)
theorem guar_nil : ∀ (f k : Nat) (b : Int), EndR (guarS f k b [])
 | 0, _, b => .inl ⟨b, rfl⟩
 | _f + 1, _k, b => .inl ⟨b, rfl⟩
theorem guar_law : ∀ (f k : Nat) (b : Int) (l : Bs), LawB (guarS f k b) l
 | 0, _, b, l => LawB.ok b l
 | f + 1, k, b, l => LawB.same (guar_eq f k b) (LawB.bindA (more_law l) (fun m r _ => by
     cases m
     · exact LawB.ok b r
     · exact LawB.bindB (word_law (guard_wcs k) r) (fun i r' _ => guar_law f _ _ r') (fun i => guar_nil f _ _) (fun i c t _ hc => guar_hi f _ _ c t hc)) (fun m => by
     cases m
     · exact .inl ⟨b, rfl⟩
     · exact bind_nil (word_nil (guard_no_nil k))))
def othG (pairs : Bool) (most f many : Nat) (ns : List Bs) (vs : List To) (nm : Bs) (r1 : Bs) : Except Er ((List Bs × List To) × Bs) :=
 if pairs = true then bindS mustU (fun _ => bindS versS (fun v => othersS pairs most f (many + 1) (ns ++ [nm]) (vs ++ [v]))) r1 else othersS pairs most f (many + 1) (ns ++ [nm]) vs r1
def othM (pairs : Bool) (most f many : Nat) (ns : List Bs) (vs : List To) (m : Bool) (r : Bs) : Except Er ((List Bs × List To) × Bs) :=
 if m = true then (if many = most ∧ beginsS r = true then .error (r, 3) else bindS nameS (othG pairs most f many ns vs) r) else .ok ((ns, vs), r)
theorem oth_eq (pairs : Bool) (most f many : Nat) (ns : List Bs) (vs : List To) (l : Bs) : othersS pairs most (f + 1) many ns vs l = bindS moreS (othM pairs most f many ns vs) l := by
 rw [othersS]
 unfold bindS
 cases moreS l with
 | error x => rfl
 | ok x =>
   obtain ⟨m, r⟩ := x
   cases m
   · rfl
   · unfold othM
     simp only [if_true]
     by_cases hb : many = most ∧ beginsS r = true
     · rw [if_pos hb, if_pos hb]
     · rw [if_neg hb, if_neg hb]
       unfold bindS
       cases nameS r with
       | error x => rfl
       | ok x =>
         obtain ⟨nm, r1⟩ := x
         simp only []
         unfold othG
         cases pairs
         · rfl
         · simp only [if_true]
           rw [← must_bind]
           cases mustS r1 with
           | error x => rfl
           | ok r2 =>
             simp only []
             unfold bindS
             cases versS r2 with
             | error x => rfl
             | ok x => rfl
theorem oth_hi (pairs : Bool) (most : Nat) : ∀ (f many : Nat) (ns : List Bs) (vs : List To) (c : UInt8) (t : Bs), 128 ≤ c.toNat → restE (othersS pairs most f many ns vs (c :: t)) = c :: t
 | 0, _, _, _, c, t, _ => rfl
 | f + 1, many, ns, vs, c, t, h => by rw [oth_eq]; exact bind_hi (more_hi t h)
theorem oth_nil (pairs : Bool) (most : Nat) : ∀ (f many : Nat) (ns : List Bs) (vs : List To), EndR (othersS pairs most f many ns vs [])
 | 0, _, ns, vs => .inl ⟨(ns, vs), rfl⟩
 | _f + 1, _many, ns, vs => .inl ⟨(ns, vs), rfl⟩
theorem othM_nil (pairs : Bool) (most f many : Nat) (ns : List Bs) (vs : List To) (m : Bool) : EndR (othM pairs most f many ns vs m []) := by
 cases m
 · exact .inl ⟨(ns, vs), rfl⟩
 · unfold othM
   rw [if_pos rfl, if_neg (by simp [beginsS])]
   exact .inr rfl
theorem othG_law (pairs : Bool) (most f many : Nat) (ns : List Bs) (vs : List To) (nm : Bs) (ih : ∀ (many : Nat) (ns : List Bs) (vs : List To) (l : Bs), LawB (othersS pairs most f many ns vs) l) (r : Bs) : LawB (othG pairs most f many ns vs nm) r := by
 cases pairs
 · exact LawB.same (fun y => rfl) (ih (many + 1) (ns ++ [nm]) vs r)
 · refine LawB.same (K := bindS mustU (fun _ => bindS versS (fun v => othersS true most f (many + 1) (ns ++ [nm]) (vs ++ [v])))) (fun y => rfl) ?_
   exact LawB.bindA (must_law r) (fun _ r2 _ => LawB.bindB (vers_law r2) (fun v r3 _ => ih _ _ _ r3) (fun v => oth_nil true most f _ _ _) (fun v c t _ hc => oth_hi true most f _ _ _ c t hc)) (fun _ => bind_nil rfl)
theorem othG_hi (pairs : Bool) (most f many : Nat) (ns : List Bs) (vs : List To) (nm : Bs) (c : UInt8) (t : Bs) (h : 128 ≤ c.toNat) : restE (othG pairs most f many ns vs nm (c :: t)) = c :: t := by
 cases pairs
 · exact oth_hi false most f _ _ _ c t h
 · exact bind_hi (must_hi t h)
theorem othG_nil (pairs : Bool) (most f many : Nat) (ns : List Bs) (vs : List To) (nm : Bs) : EndR (othG pairs most f many ns vs nm []) := by
 cases pairs
 · exact oth_nil false most f _ _ _
 · exact .inr rfl
theorem othM_law (pairs : Bool) (most f many : Nat) (ns : List Bs) (vs : List To) (ih : ∀ (many : Nat) (ns : List Bs) (vs : List To) (l : Bs), LawB (othersS pairs most f many ns vs) l) (m : Bool) (r : Bs) : LawB (othM pairs most f many ns vs m) r := by
 cases m
 · exact LawB.same (fun y => rfl) (LawB.ok (ns, vs) r)
 · by_cases hm : many = most
   · by_cases hb : beginsS r = true
     · intro hf
       have : othM pairs most f many ns vs true r = .error (r, 3) := by unfold othM; rw [if_pos rfl, if_pos ⟨hm, hb⟩]
       exact absurd (hf _ _ this) (by decide)
     · have hb' : beginsS r = false := by simpa using hb
       have hres : ∀ y, beginsS y = false → othM pairs most f many ns vs true y = .error (y, 220) := fun y hy => by
         unfold othM bindS; rw [if_pos rfl, if_neg (by rw [hy]; simp), nameS_no hy]
       intro _
       rw [hres r hb']
       refine ⟨[], rfl, fun c x hc hc2 => ?_, fun b hbp _ => ?_⟩
       · have hlc : r.head? = some c := hc
         cases r with
         | nil => cases hlc
         | cons d t =>
           obtain rfl : d = c := Option.some.inj hlc
           exact hres _ (by rw [List.nil_append, begins_lo d x t hc2]; exact hb')
       · have : b = [] := List.prefix_nil.1 hbp
         subst this; exact othM_nil pairs most f many ns vs true
   · refine LawB.same (K := bindS nameS (othG pairs most f many ns vs)) (fun y => by unfold othM; rw [if_pos rfl, if_neg (fun h => hm h.1)]) ?_
     exact LawB.bindB (name_law r) (fun nm r1 _ => othG_law pairs most f many ns vs nm ih r1) (fun nm => othG_nil pairs most f many ns vs nm) (fun nm c t _ hc => othG_hi pairs most f many ns vs nm c t hc)
theorem oth_law (pairs : Bool) (most : Nat) : ∀ (f many : Nat) (ns : List Bs) (vs : List To) (l : Bs), LawB (othersS pairs most f many ns vs) l
 | 0, _, ns, vs, l => LawB.ok (ns, vs) l
 | f + 1, many, ns, vs, l => LawB.same (oth_eq pairs most f many ns vs) (LawB.bindA (more_law l) (fun m r _ => othM_law pairs most f many ns vs (oth_law pairs most f) m r) (fun m => othM_nil pairs most f many ns vs m))
end Yd


namespace Yd
open Go Go.RowKit Go.Proofs

/-! What stands behind the names. -/
theorem level_no_nil : [] ∉ levelL := by decide
theorem verb_no_nil : [] ∉ verbL := by decide
theorem verb_wcs : ∀ w ∈ verbL, ∀ c ∈ w, wcB c = true := by decide
def mapS {α β : Type} (g : α → β) (r : Except Er (α × Bs)) : Except Er (β × Bs) :=
 match r with
 | .error x => .error x
 | .ok (v, y) => .ok (g v, y)
theorem map_rest {α β : Type} (g : α → β) (r : Except Er (α × Bs)) : restE (mapS g r) = restE r := by
 cases r with
 | error x => rfl
 | ok x => rfl
theorem map_put {α β : Type} (g : α → β) (r : Except Er (α × Bs)) (y : Bs) : putE (mapS g r) y = mapS g (putE r y) := by
 cases r with
 | error x => rfl
 | ok x => rfl
theorem map_end {α β : Type} (g : α → β) {r : Except Er (α × Bs)} (h : EndR r) : EndR (mapS g r) := by
 rcases h with ⟨v, h⟩ | h
 · rw [h]; exact .inl ⟨g v, rfl⟩
 · rw [h]; exact .inr rfl
theorem LawB.map {α β : Type} (g : α → β) {F : Bs → Except Er (α × Bs)} {l : Bs} (h : LawB F l) : LawB (fun y => mapS g (F y)) l := fun hf => by
 obtain ⟨a, ha, hl, hp⟩ := h (fun x e he => hf x e (by show mapS g (F l) = _; rw [he]; rfl))
 refine ⟨a, by rw [map_rest]; exact ha, fun c x hc hc2 => ?_, fun b hb hn => map_end g (hp b hb hn)⟩
 rw [map_rest] at hc
 rw [map_put]
 exact congrArg (mapS g) (hl c x hc hc2)
def lnOf (k : Nat) (f : Bool) (x : List Bs × List To) : LnS := ⟨k, x.1, 0, x.2, f, 0⟩
def othF (ns : List Bs) (m : Bool) (r : Bs) : Except Er (LnS × Bs) :=
 if m = true then (if r.head? = some 45 then mapS (lnOf 8 true) (othersS false 300 301 0 ns [] r.tail) else mapS (lnOf 8 false) (othM false 300 300 0 ns [] true r)) else mapS (lnOf 8 false) (othM false 300 300 0 ns [] false r)
theorem tail8_eq (ns : List Bs) (l : Bs) : tailS 8 ns l = bindS moreS (othF ns) l := by
 have h0 : tailS 8 ns l = (match firstS l with | .error x => .error x | .ok (f, r) => mapS (lnOf 8 f) (othersS false 300 301 0 ns [] r)) := by
   unfold tailS
   rw [if_neg (by omega), if_neg (by omega), if_neg (by omega), if_pos rfl]
   cases firstS l with
   | error x => rfl
   | ok x =>
     obtain ⟨f, r⟩ := x
     simp only []
     cases othersS false 300 301 0 ns [] r with
     | error x => rfl
     | ok x => rfl
 rw [h0]
 unfold firstS bindS
 cases hm : moreS l with
 | error x => rfl
 | ok x =>
   obtain ⟨m, r⟩ := x
   have h1 : othersS false 300 301 0 ns [] l = othM false 300 300 0 ns [] m r := by rw [oth_eq]; unfold bindS; rw [hm]
   cases m
   · simp only []
     rw [h1]; rfl
   · simp only []
     unfold othF
     rw [if_pos rfl]
     by_cases h45 : r.head? = some 45
     · rw [if_pos h45, if_pos h45]
     · rw [if_neg h45, if_neg h45]
       simp only []
       rw [h1]
theorem othF_nil (ns : List Bs) (m : Bool) : EndR (othF ns m []) := by
 cases m
 · exact map_end (lnOf 8 false) (othM_nil false 300 300 0 ns [] false)
 · exact map_end (lnOf 8 false) (othM_nil false 300 300 0 ns [] true)
theorem othF_law (ns : List Bs) (m : Bool) (r : Bs) : LawB (othF ns m) r := by
 cases m
 · exact LawB.same (K := fun y => mapS (lnOf 8 false) (othM false 300 300 0 ns [] false y)) (fun y => rfl) (LawB.map (F := othM false 300 300 0 ns [] false) _ (othM_law false 300 300 0 ns [] (oth_law false 300 300) false r))
 · by_cases h45 : r.head? = some 45
   · cases r with
     | nil => cases h45
     | cons d t =>
       obtain rfl : d = 45 := Option.some.inj h45
       intro hf
       exact LawC.cons (F := othF ns true) (K := fun y => mapS (lnOf 8 true) (othersS false 300 301 0 ns [] y)) (C := True) (fun y => rfl) (othF_nil ns true) (fun _ => LawB.map (F := othersS false 300 301 0 ns []) (lnOf 8 true) (oth_law false 300 301 0 ns [] t) hf) trivial
   · have hK : ∀ y : Bs, y.head? ≠ some 45 → othF ns true y = mapS (lnOf 8 false) (othM false 300 300 0 ns [] true y) := fun y hy => by unfold othF; rw [if_pos rfl, if_neg hy]
     intro hf
     refine LawC.congr (F := othF ns true) (K := fun y => mapS (lnOf 8 false) (othM false 300 300 0 ns [] true y)) (C := True) (fun y _ hy => hK y (by rw [hy]; exact h45)) (hK r h45) (othF_nil ns true) (fun _ => ?_) trivial
     refine LawB.map (F := othM false 300 300 0 ns [] true) (lnOf 8 false) (othM_law false 300 300 0 ns [] (oth_law false 300 300) true r) ?_
     show Fair (mapS (lnOf 8 false) (othM false 300 300 0 ns [] true r))
     rw [← hK r h45]; exact hf
def lvOf (k : Nat) (ns : List Bs) (i : Nat) : LnS := ⟨k, ns, 1 + i, [], false, 0⟩
def vsOf (k : Nat) (ns : List Bs) (v : To) : LnS := ⟨k, ns, 0, [v], false, 0⟩
def guOf (k : Nat) (ns : List Bs) (b : Int) : LnS := ⟨k, ns, 0, [], false, b⟩
theorem tail1_eq (ns : List Bs) (l : Bs) : tailS 1 ns l = mapS (lvOf 1 ns) (bindS mustU (fun _ => wordS levelL) l) := by
 rw [← must_bind]
 unfold tailS
 rw [if_pos rfl]
 cases mustS l with
 | error x => rfl
 | ok r =>
   simp only []
   cases wordS levelL r with
   | error x => rfl
   | ok x => rfl
theorem tail3_eq (ns : List Bs) (l : Bs) : tailS 3 ns l = mapS (vsOf 3 ns) (bindS mustU (fun _ => versS) l) := by
 rw [← must_bind]
 unfold tailS
 rw [if_neg (by omega), if_pos rfl]
 cases mustS l with
 | error x => rfl
 | ok r =>
   simp only []
   cases versS r with
   | error x => rfl
   | ok x => rfl
theorem tail9_eq (ns : List Bs) (l : Bs) : tailS 9 ns l = mapS (guOf 9 ns) (guarS 5 0 0 l) := by
 unfold tailS
 rw [if_neg (by omega), if_neg (by omega), if_pos rfl]
 cases guarS 5 0 0 l with
 | error x => rfl
 | ok x => rfl
theorem tail4_eq (ns : List Bs) (l : Bs) : tailS 4 ns l = mapS (lnOf 4 false) (othersS true 40 41 0 ns [] l) := by
 unfold tailS
 rw [if_neg (by omega), if_neg (by omega), if_neg (by omega), if_neg (by omega), if_pos rfl]
 cases othersS true 40 41 0 ns [] l with
 | error x => rfl
 | ok x => rfl
theorem tail7_eq (ns : List Bs) (l : Bs) : tailS 7 ns l = mapS (lnOf 7 false) (othersS false 300 301 0 ns [] l) := by
 unfold tailS
 rw [if_neg (by omega), if_neg (by omega), if_neg (by omega), if_neg (by omega), if_neg (by omega), if_pos rfl]
 cases othersS false 300 301 0 ns [] l with
 | error x => rfl
 | ok x => rfl
theorem tailx_eq {k : Nat} (h1 : k ≠ 1) (h3 : k ≠ 3) (h9 : k ≠ 9) (h8 : k ≠ 8) (h4 : k ≠ 4) (h7 : k ≠ 7) (ns : List Bs) (l : Bs) : tailS k ns l = .ok (⟨k, ns, 0, [], false, 0⟩, l) := by
 unfold tailS
 rw [if_neg h1, if_neg h3, if_neg h9, if_neg h8, if_neg h4, if_neg h7]
theorem tail_law (k : Nat) (ns : List Bs) (l : Bs) : LawB (tailS k ns) l ∧ EndR (tailS k ns []) ∧ ∀ c t, 128 ≤ c.toNat → restE (tailS k ns (c :: t)) = c :: t := by
 by_cases h1 : k = 1
 · subst h1
   refine ⟨LawB.same (tail1_eq ns) (LawB.map (F := bindS mustU (fun _ => wordS levelL)) _ (LawB.bindA (must_law l) (fun _ r _ => word_law wc_level r) (fun _ => .inr (word_nil level_no_nil)))), .inr rfl, fun c t h => ?_⟩
   rw [tail1_eq, map_rest]; exact bind_hi (must_hi t h)
 by_cases h3 : k = 3
 · subst h3
   refine ⟨LawB.same (tail3_eq ns) (LawB.map (F := bindS mustU (fun _ => versS)) _ (LawB.bindA (must_law l) (fun _ r _ => vers_law r) (fun _ => .inr rfl))), .inr rfl, fun c t h => ?_⟩
   rw [tail3_eq, map_rest]; exact bind_hi (must_hi t h)
 by_cases h9 : k = 9
 · subst h9
   refine ⟨LawB.same (tail9_eq ns) (LawB.map (F := guarS 5 0 0) _ (guar_law 5 0 0 l)), ?_, fun c t h => ?_⟩
   · rw [tail9_eq]; exact map_end _ (guar_nil 5 0 0)
   · rw [tail9_eq, map_rest]; exact guar_hi 5 0 0 c t h
 by_cases h8 : k = 8
 · subst h8
   refine ⟨LawB.same (tail8_eq ns) (LawB.bindA (more_law l) (fun m r _ => othF_law ns m r) (fun m => othF_nil ns m)), ?_, fun c t h => ?_⟩
   · rw [tail8_eq]; exact othF_nil ns false
   · rw [tail8_eq]; exact bind_hi (more_hi t h)
 by_cases h4 : k = 4
 · subst h4
   refine ⟨LawB.same (tail4_eq ns) (LawB.map (F := othersS true 40 41 0 ns []) _ (oth_law true 40 41 0 ns [] l)), ?_, fun c t h => ?_⟩
   · rw [tail4_eq]; exact map_end _ (oth_nil true 40 41 0 ns [])
   · rw [tail4_eq, map_rest]; exact oth_hi true 40 41 0 ns [] c t h
 by_cases h7 : k = 7
 · subst h7
   refine ⟨LawB.same (tail7_eq ns) (LawB.map (F := othersS false 300 301 0 ns []) _ (oth_law false 300 301 0 ns [] l)), ?_, fun c t h => ?_⟩
   · rw [tail7_eq]; exact map_end _ (oth_nil false 300 301 0 ns [])
   · rw [tail7_eq, map_rest]; exact oth_hi false 300 301 0 ns [] c t h
 have hx := tailx_eq h1 h3 h9 h8 h4 h7 ns
 refine ⟨LawB.same hx (LawB.ok _ l), ?_, fun c t _ => ?_⟩
 · rw [hx]; exact .inl ⟨_, rfl⟩
 · rw [hx]; rfl
/-! A line. -/
def endG (s : LnS) (r2 : Bs) : Except Er (LnS × Bs) := bindS moreS (fun m r3 => if m = true then .error (r3, 220) else .ok (s, r3)) r2
def lnG (k : Nat) : List Bs → Bs → Except Er (LnS × Bs) := fun ns => bindS (tailS k ns) endG
def vbG (i : Nat) : Bs → Except Er (LnS × Bs) := bindS (namesS (formN (i + 1)).toNat []) (lnG (i + 1))
def rdG (m : Bool) : Bs → Except Er (LnS × Bs) := if m = true then fun r => .ok (⟨0, [], 0, [], false, 0⟩, r) else bindS (wordS verbL) vbG
theorem read_eq (l : Bs) : readS l = bindS skR rdG l := by
 unfold readS
 show _ = rdG (endsS (skipS l)) (skipS l)
 unfold rdG
 by_cases he : endsS (skipS l) = true
 · rw [if_pos he, if_pos he]
 · rw [if_neg he, if_neg he]
   unfold bindS
   cases wordS verbL (skipS l) with
   | error x => rfl
   | ok x =>
     obtain ⟨i, r⟩ := x
     simp only []
     unfold vbG bindS
     cases namesS (formN (i + 1)).toNat [] r with
     | error x => rfl
     | ok x =>
       obtain ⟨ns, r1⟩ := x
       simp only []
       unfold lnG bindS
       cases tailS (i + 1) ns r1 with
       | error x => rfl
       | ok x =>
         obtain ⟨s, r2⟩ := x
         simp only []
         unfold endG bindS
         cases moreS r2 with
         | error x => rfl
         | ok x =>
           obtain ⟨m, r3⟩ := x
           cases m <;> rfl
theorem endG_nil (s : LnS) : EndR (endG s []) := .inl ⟨s, rfl⟩
theorem endG_hi (s : LnS) (c : UInt8) (t : Bs) (h : 128 ≤ c.toNat) : restE (endG s (c :: t)) = c :: t := bind_hi (more_hi t h)
theorem endG_law (s : LnS) (l : Bs) : LawB (endG s) l := LawB.bindA (more_law l) (fun m r _ => by
 cases m
 · exact LawB.ok s r
 · exact LawC.err r _) (fun m => by
 cases m
 · exact .inl ⟨s, rfl⟩
 · exact .inr rfl)
theorem lnG_law (k : Nat) (ns : List Bs) (l : Bs) : LawB (lnG k ns) l := LawB.bindB (tail_law k ns l).1 (fun s r _ => endG_law s r) endG_nil (fun s c t _ h => endG_hi s c t h)
theorem lnG_nil (k : Nat) (ns : List Bs) : EndR (lnG k ns []) := end_bind (tail_law k ns []).2.1 endG_nil
theorem lnG_hi (k : Nat) (ns : List Bs) (c : UInt8) (t : Bs) (h : 128 ≤ c.toNat) : restE (lnG k ns (c :: t)) = c :: t := by
 have h1 := (tail_law k ns []).2.2 c t h
 unfold lnG bindS
 cases hr : tailS k ns (c :: t) with
 | error x => rw [hr] at h1; exact h1
 | ok x =>
   obtain ⟨s, r⟩ := x
   rw [hr] at h1
   have : r = c :: t := h1
   subst this
   exact endG_hi s c t h
theorem vbG_law (i : Nat) (l : Bs) : LawB (vbG i) l := LawB.bindB (names_law _ [] l) (fun ns r _ => lnG_law _ ns r) (fun ns => lnG_nil _ ns) (fun ns c t _ h => lnG_hi _ ns c t h)
theorem vbG_nil (i : Nat) : EndR (vbG i []) := end_bind (names_nil _ []) (fun ns => lnG_nil _ ns)
theorem vbG_hi (i : Nat) (c : UInt8) (t : Bs) (h : 128 ≤ c.toNat) : restE (vbG i (c :: t)) = c :: t := by
 have h1 := names_hi (formN (i + 1)).toNat [] c t h
 unfold vbG bindS
 cases hr : namesS (formN (i + 1)).toNat [] (c :: t) with
 | error x => rw [hr] at h1; exact h1
 | ok x =>
   obtain ⟨s, r⟩ := x
   rw [hr] at h1
   have : r = c :: t := h1
   subst this
   exact lnG_hi _ s c t h
theorem rdG_nil (m : Bool) : EndR (rdG m []) := by
 cases m
 · exact bind_nil (F := wordS verbL) (G := vbG) (word_nil verb_no_nil)
 · exact .inl ⟨_, rfl⟩
theorem read_law (l : Bs) : LawB readS l := LawB.same read_eq (LawB.bindA (sk_law l) (fun m r _ => by
 cases m
 · exact LawB.bindB (word_law verb_wcs r) (fun i r' _ => vbG_law i r') vbG_nil (fun i c t _ h => vbG_hi i c t h)
 · exact LawB.ok _ r) rdG_nil)
def remG (s : LnS) (r : Bs) : Except Er (LnS × Bs) := if (remS r).head? = none then .ok (s, []) else if (remS r).head? = some 10 then .ok (s, (remS r).tail) else .error (remS r, 220)
theorem line_eq (l : Bs) : lineS l = bindS readS remG l := by
 unfold lineS bindS
 cases readS l with
 | error x => rfl
 | ok x => rfl
theorem rem_no {r : Bs} (h : r.head? ≠ some 35) : remS r = r := by unfold remS; rw [if_neg h]
theorem rem_hash (t : Bs) : remS (35 :: t) = t.drop (whileE ⟨t.toArray⟩ remB) := by
 unfold remS
 rw [if_pos (by rfl), whileE_cons (35 :: t) remB (by simp), ok_lo 35 t (by decide), dec_lo 35 t (by decide), if_pos (by decide), Nat.add_comm]
 rfl
theorem remG_law (s : LnS) (r : Bs) : LawC (∃ q, remG s r = .error (q, 220)) (remG s) r := fun ⟨q, hq⟩ => by
 have hn1 : ¬ (remS r).head? = none := fun h => by unfold remG at hq; rw [if_pos h] at hq; cases hq
 have hn2 : ¬ (remS r).head? = some 10 := fun h => by unfold remG at hq; rw [if_neg hn1, if_pos h] at hq; cases hq
 have hqe : q = remS r := by
   unfold remG at hq; rw [if_neg hn1, if_neg hn2] at hq
   injection hq with h; injection h with h _; exact h.symm
 subst hqe
 rw [hq]
 by_cases h35 : r.head? = some 35
 · cases r with
   | nil => cases h35
   | cons d t =>
     obtain rfl : d = 35 := Option.some.inj h35
     rw [rem_hash] at hn1 hn2 hq ⊢
     obtain ⟨n, hn⟩ : ∃ n, n = whileE ⟨t.toArray⟩ remB := ⟨_, rfl⟩
     have hstop : whileE ⟨(t.drop n).toArray⟩ remB = 0 := by rw [hn]; exact whileE_stop_at remB _ t (Nat.le_refl _)
     have hnl : n ≤ t.length := by rw [hn]; exact whileE_le remB _ t (Nat.le_refl _)
     have hrun : whileE ⟨(t.take n).toArray⟩ remB = (t.take n).length := by rw [List.length_take, Nat.min_eq_left hnl]; have := whileE_take remB _ t (Nat.le_refl _); rw [← hn] at this; exact this
     rw [← hn] at hn1 hn2 ⊢
     refine ⟨35 :: t.take n, by show 35 :: t = _; rw [List.cons_append]; show _ = 35 :: (t.take n ++ t.drop n); rw [List.take_append_drop], fun c x hc hc2 => ?_, fun b hb hno => ?_⟩
     · have hc' : (t.drop n).head? = some c := hc
       have hcb : remB (c.toNat : Int) = false := by
         cases hd : t.drop n with
         | nil => rw [hd] at hc'; cases hc'
         | cons d z =>
           rw [hd] at hc' hstop
           obtain rfl : d = c := Option.some.inj hc'
           rw [whileE_cons _ remB (by simp), ok_lo d z hc2, dec_lo d z hc2] at hstop
           cases he : remB (d.toNat : Int)
           · rfl
           · rw [he, if_pos (show (true && true) = true from rfl)] at hstop; simp at hstop
       have hw : whileE ⟨(t.take n ++ c :: x).toArray⟩ remB = (t.take n).length := by
         rw [whileE_cat remB _ (t.take n) (c :: x) (Nat.le_refl _) hrun, whileE_cons (c :: x) remB (by simp), ok_lo c x hc2, dec_lo c x hc2]
         simp only [hcb, Bool.and_false, Bool.false_eq_true, if_false, Nat.add_zero]
       have hr : remS (35 :: t.take n ++ c :: x) = c :: x := by
         rw [List.cons_append, rem_hash, hw, List.drop_left]
       unfold remG
       rw [hr, if_neg (by simp), if_neg (by intro e; apply hn2; rw [hc']; exact e)]
       rfl
     · cases b with
       | nil => exact .inl ⟨s, rfl⟩
       | cons b0 b1 =>
         obtain ⟨rfl, hb1⟩ := List.cons_prefix_cons.1 hb
         obtain ⟨z, hz⟩ := hb1.trans (List.take_prefix n t)
         have hlen : b1.length ≤ n := by have := hb1.length_le; rw [List.length_take] at this; omega
         have hwb := run_cut remB _ b1 z (Nat.le_refl _) (by rw [hz, ← hn]; exact hlen) (NoCut.suf (a := [35]) hno)
         left
         refine ⟨s, ?_⟩
         unfold remG
         rw [rem_hash, hwb, List.drop_length]
         rfl
 · have hr : remS r = r := rem_no h35
   rw [hr] at hn1 hn2 ⊢
   refine ⟨[], rfl, fun c x hc hc2 => ?_, fun b hb _ => ?_⟩
   · have hlc : r.head? = some c := hc
     have hcx : remS (c :: x) = c :: x := rem_no (fun e => h35 (hlc.trans e))
     rw [List.nil_append]
     unfold remG
     rw [hcx, if_neg (by simp), if_neg (by intro e; apply hn2; rw [hlc]; exact e)]
     rfl
   · have : b = [] := List.prefix_nil.1 hb
     subst this; exact .inl ⟨s, rfl⟩
theorem remG_hi (s : LnS) (c : UInt8) (t : Bs) (h : 128 ≤ c.toNat) : restE (remG s (c :: t)) = c :: t := by
 have h1 : (c :: t : Bs).head? ≠ some 35 := fun e => by have := Option.some.inj e; rw [this] at h; exact absurd h (by decide)
 unfold remG
 rw [rem_no h1, if_neg (by simp), if_neg (by intro e; have := Option.some.inj e; rw [this] at h; exact absurd h (by decide))]
 rfl
theorem first_law {l r : Bs} (h : lineS l = .error (r, 220)) : ∃ a, l = a ++ r ∧ (∀ c x, r.head? = some c → c.toNat < 128 → lineS (a ++ c :: x) = .error (c :: x, 220)) ∧ ∀ b, b <+: a → NoCut b → (∃ s, lineS b = .ok (s, [])) ∨ lineS b = .error ([], 220) := by
 have hb : bindS readS remG l = .error (r, 220) := by rw [← line_eq]; exact h
 obtain ⟨a, ha, hl, hp⟩ := LawC.bindB (C := bindS readS remG l = .error (r, 220)) (fun hC x e he => by rw [hC] at he; injection he with h1; injection h1 with _ h2; exact h2.symm) (read_law l)
   (fun s r' hr' hC => remG_law s r' ⟨r, by unfold bindS at hC; rw [hr'] at hC; exact hC⟩) (fun s => .inl ⟨s, rfl⟩) (fun s c t _ hc => remG_hi s c t hc) hb
 rw [hb] at ha hl
 refine ⟨a, ha, fun c x hc hc2 => ?_, fun b hbp hn => ?_⟩
 · rw [line_eq]; exact hl c x hc hc2
 · rw [line_eq]; exact hp b hbp hn
end Yd
