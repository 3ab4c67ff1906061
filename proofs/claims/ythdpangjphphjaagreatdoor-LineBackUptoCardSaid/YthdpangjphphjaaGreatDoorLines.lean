import Derived.Test.YthdpangjphphjaaGreatDoorBk1
import Derived.Test.YthdpangjphphjaaGreatDoorLx
import Derived.Test.YthdpangjphphjaaGreatDoorProg
import Derived.Test.YthdpangjphphjaaGreatDoorRdB
set_option maxRecDepth 200000
set_option maxHeartbeats 8000000
namespace Yd
open Go Go.RowKit Go.Proofs

def bindE {α β : Type} (x : Except Er (α × Bs)) (f : α → Bs → Except Er (β × Bs)) : Except Er (β × Bs) := match x with | .error e => .error e | .ok (a, r) => f a r
def namesD (k : Int) (most : Nat) : Nat → Nat → LnS → Bs → Except Er (LnS × Bs)
 | 0, _, n, l => .ok (n, l)
 | f + 1, many, n, l => bindE (moreS l) fun b r =>
   if b = false then .ok (n, r)
   else if k = 8 ∧ many = 0 ∧ n.first = false ∧ r.head? = some 45 then namesD k most f 0 { n with first := true } r.tail
   else bindE (if many = most ∧ beginsS r = true then .error (r, 3) else nameS r) fun nm r1 =>
     if k = 4 then bindE (mustU r1) fun _ r2 => bindE (versS r2) fun v r3 => namesD k most f (many + 1) (addV (addN n nm) v) r3
     else namesD k most f (many + 1) (addN n nm) r1
def asLn (n : LnS) (x : Except Er ((List Bs × List To) × Bs)) : Except Er (LnS × Bs) := match x with | .error e => .error e | .ok (b, r) => .ok ({ n with names := b.1, vers := b.2 }, r)
theorem asLn_add (n m : LnS) (x : Except Er ((List Bs × List To) × Bs)) (h : ∀ ns vs, ({ n with names := ns, vers := vs } : LnS) = { m with names := ns, vers := vs }) : asLn n x = asLn m x := by
 unfold asLn
 cases x with
 | error e => rfl
 | ok b => exact congrArg (fun y => Except.ok (y, b.2)) (h _ _)
theorem mustU_of (l : Bs) {β : Type} (f : Unit → Bs → Except Er (β × Bs)) : bindE (mustU l) f = (match mustS l with | .error x => .error x | .ok r => f () r) := by
 unfold mustU bindE
 cases mustS l <;> rfl
theorem names_others (k : Int) (most : Nat) (pairs : Bool) (hp : (k = 4) ↔ pairs = true) : ∀ (f many : Nat) (n : LnS) (l : Bs), (k = 8 → n.first = true ∨ 0 < many) →
   namesD k most f many n l = asLn n (othersS pairs most f many n.names n.vers l)
 | 0, many, n, l, _ => rfl
 | f + 1, many, n, l, h8 => by
   unfold namesD othersS
   cases hm : moreS l with
   | error x => rfl
   | ok y =>
     obtain ⟨b, r⟩ := y
     cases b
     · rfl
     · show (if true = false then .ok (n, r) else _) = _
       rw [if_neg (show ¬ (true = false) by simp), if_neg (show ¬ (k = 8 ∧ many = 0 ∧ n.first = false ∧ r.head? = some 45) by
         rintro ⟨h1, h2, h3, _⟩
         rcases h8 h1 with h | h
         · rw [h] at h3; cases h3
         · omega)]
       by_cases hb : many = most ∧ beginsS r = true
       · rw [if_pos hb]; simp only [if_pos hb]; rfl
       · rw [if_neg hb]; simp only [if_neg hb]
         cases hn : nameS r with
         | error x => rfl
         | ok z =>
           obtain ⟨nm, r1⟩ := z
           show (if k = 4 then _ else _) = _
           by_cases h4 : k = 4
           · rw [if_pos h4]
             simp only [if_pos (hp.1 h4)]
             rw [mustU_of]
             cases mustS r1 with
             | error x => rfl
             | ok r2 =>
               show bindE (versS r2) _ = _
               simp only []
               cases versS r2 with
               | error x => rfl
               | ok u =>
                 obtain ⟨v, r3⟩ := u
                 show namesD k most f (many + 1) (addV (addN n nm) v) r3 = _
                 rw [names_others k most pairs hp f (many + 1) (addV (addN n nm) v) r3 (fun _ => .inr (by omega))]
                 exact asLn_add _ _ _ (fun _ _ => rfl)
           · rw [if_neg h4]
             simp only [if_neg (fun e => h4 (hp.2 e))]
             rw [names_others k most pairs hp f (many + 1) (addN n nm) r1 (fun _ => .inr (by omega))]
             exact asLn_add _ _ _ (fun _ _ => rfl)
theorem nameS_nb {l : Bs} (h : beginsS l = false) : nameS l = .error (l, 220) := by unfold nameS; rw [if_pos (by rw [h]; simp)]
theorem others_fuel (pairs : Bool) (most : Nat) : ∀ (f many : Nat) (ns : List Bs) (vs : List To) (l : Bs), most + 1 ≤ f + many → many ≤ most → othersS pairs most (f + 1) many ns vs l = othersS pairs most f many ns vs l
 | 0, many, ns, vs, l, h1, h2 => by omega
 | f + 1, many, ns, vs, l, h1, h2 => by
   rw [othersS, othersS]
   cases moreS l with
   | error x => rfl
   | ok y =>
     obtain ⟨b, r⟩ := y
     cases b
     · rfl
     · simp only []
       by_cases hb : many = most ∧ beginsS r = true
       · rw [if_pos hb, if_pos hb]
       · rw [if_neg hb, if_neg hb]
         by_cases hm : many = most
         · have hbe : beginsS r = false := by
             cases h : beginsS r
             · rfl
             · exact absurd ⟨hm, h⟩ hb
           rw [nameS_nb hbe]
         · cases nameS r with
           | error x => rfl
           | ok z =>
             obtain ⟨nm, r1⟩ := z
             simp only []
             by_cases hp : pairs = true
             · rw [if_pos hp, if_pos hp]
               cases mustS r1 with
               | error x => rfl
               | ok r2 =>
                 simp only []
                 cases versS r2 with
                 | error x => rfl
                 | ok u => obtain ⟨v, r3⟩ := u; exact others_fuel pairs most f (many + 1) _ _ _ (by omega) (by omega)
             · rw [if_neg hp, if_neg hp]
               exact others_fuel pairs most f (many + 1) _ _ _ (by omega) (by omega)
def takesD : Nat → LnS → Bs → Except Er (LnS × Bs)
 | 0, n, l => .ok (n, l)
 | j + 1, n, l => bindE (mustU l) fun _ r => bindE (nameS r) fun nm r' => takesD j (addN n nm) r'
theorem takes_names : ∀ (j : Nat) (n : LnS) (l : Bs), takesD j n l = (match namesS j n.names l with | .error x => .error x | .ok (ns, r) => .ok ({ n with names := ns }, r))
 | 0, n, l => rfl
 | j + 1, n, l => by
   rw [takesD, mustU_of, namesS]
   cases mustS l with
   | error x => rfl
   | ok r =>
     simp only []
     cases nameS r with
     | error x => rfl
     | ok z =>
       obtain ⟨nm, r'⟩ := z
       show takesD j (addN n nm) r' = _
       rw [takes_names j (addN n nm) r']
def guarD : Nat → Nat → LnS → Bs → Except Er (LnS × Bs)
 | 0, _, n, l => .ok (n, l)
 | f + 1, k, n, l => bindE (moreS l) fun b r => if b = false then .ok (n, r) else bindE (oneS (guardL.drop k) r) fun i r' => guarD f (k + i + 1) { n with bits := n.bits + 2 ^ (k + i) } r'
theorem wc_guard (k : Nat) : ∀ x ∈ guardL.drop k, ∀ c ∈ x, wcB c = true := fun x hx => by
 have : ∀ x ∈ guardL, ∀ c ∈ x, wcB c = true := by decide
 exact this x (List.mem_of_mem_drop hx)
theorem guar_eq : ∀ (f k : Nat) (n : LnS) (l : Bs), guarD f k n l = (match guarS f k n.bits l with | .error x => .error x | .ok (b, r) => .ok ({ n with bits := b }, r))
 | 0, k, n, l => rfl
 | f + 1, k, n, l => by
   rw [guarD, guarS]
   cases moreS l with
   | error x => rfl
   | ok y =>
     obtain ⟨b, r⟩ := y
     cases b
     · rfl
     · show (if true = false then .ok (n, r) else _) = _
       rw [if_neg (show ¬ (true = false) by simp), one_word _ _ (wc_guard k)]
       simp only []
       cases wordS (guardL.drop k) r with
       | error x => rfl
       | ok z =>
         obtain ⟨i, r'⟩ := z
         show guarD f (k + i + 1) { n with bits := n.bits + 2 ^ (k + i) } r' = _
         rw [guar_eq f (k + i + 1) { n with bits := n.bits + 2 ^ (k + i) } r']
theorem wc_level : ∀ x ∈ levelL, ∀ c ∈ x, wcB c = true := by decide
theorem wc_verb : ∀ x ∈ verbL, ∀ c ∈ x, wcB c = true := by decide
end Yd


namespace Yd
open Go Go.RowKit Go.Proofs

def Sp (b : Bs) : Prop := b ≠ [] ∧ ∀ c ∈ b, blB c = true
def Cut (r : Bs) : Prop := ∀ c t, r = c :: t → blB c = true ∨ c = 10 ∨ c = 35
theorem skipS_app : ∀ (b r : Bs), (∀ c ∈ b, blB c = true) → skipS (b ++ r) = skipS r
 | [], r, _ => rfl
 | c :: b, r, h => by
   rw [List.cons_append, skipS_cons_yes (h c List.mem_cons_self)]
   exact skipS_app b r (fun x hx => h x (List.mem_cons_of_mem _ hx))
theorem skip_stays {r : Bs} (h : ∀ c t, r = c :: t → blB c = false) : skipS r = r := by
 cases r with
 | nil => rfl
 | cons c t => exact skipS_cons_no (h c t rfl)
theorem ends_stays {e : Bs} (h : endsS e = true) : skipS e = e := skip_stays fun c t hc => by
 subst hc
 rw [endsS_cons] at h
 unfold blB
 rcases Bool.or_eq_true _ _ ▸ h with h | h
 · have : c = 10 := UInt8.toNat_inj.1 (by have := eq_of_beq h; show c.toNat = 10; omega)
   rw [this]; rfl
 · have : c = 35 := UInt8.toNat_inj.1 (by have := eq_of_beq h; show c.toNat = 35; omega)
   rw [this]; rfl
theorem more_app {b : Bs} (hb : Sp b) {c : UInt8} {t : Bs} (hc : blB c = false) (he : endsS (c :: t) = false) : moreS (b ++ c :: t) = .ok (true, c :: t) := by
 unfold moreS
 rw [skipS_app b _ hb.2, skipS_cons_no hc, if_neg (by rw [he]; simp), if_neg]
 have h0 := List.length_pos_iff.2 hb.1
 intro e
 rw [List.length_append] at e
 omega
theorem more_end {b e : Bs} (hb : ∀ c ∈ b, blB c = true) (he : endsS e = true) : moreS (b ++ e) = .ok (false, e) := by
 unfold moreS
 rw [skipS_app b _ hb, ends_stays he, if_pos he]
theorem must_app {b : Bs} (hb : Sp b) {c : UInt8} {t : Bs} (hc : blB c = false) (he : endsS (c :: t) = false) : mustS (b ++ c :: t) = .ok (c :: t) := by
 unfold mustS
 rw [more_app hb hc he]
theorem Cut.stops {r : Bs} (h : Cut r) : Stops eitB r := by
 cases r with
 | nil => exact .inl rfl
 | cons c t =>
   have hk := h c t rfl
   have hc : c = 32 ∨ c = 9 ∨ c = 10 ∨ c = 35 := by
     rcases hk with hk | hk | hk
     · unfold blB at hk
       rcases Bool.or_eq_true _ _ ▸ hk with hk | hk
       · exact .inl (eq_of_beq hk)
       · exact .inr (.inl (eq_of_beq hk))
     · exact .inr (.inr (.inl hk))
     · exact .inr (.inr (.inr hk))
   rcases hc with rfl | rfl | rfl | rfl
   · exact stops_byte t (by decide) (by decide)
   · exact stops_byte t (by decide) (by decide)
   · exact stops_byte t (by decide) (by decide)
   · exact stops_byte t (by decide) (by decide)
theorem Cut.byte {c : UInt8} {t : Bs} (h : Cut (c :: t)) : wcB c = false ∧ ¬ (128 ≤ c) ∧ digB c = false := by
 have hc : c = 32 ∨ c = 9 ∨ c = 10 ∨ c = 35 := by
   rcases h c t rfl with hk | hk | hk
   · unfold blB at hk
     rcases Bool.or_eq_true _ _ ▸ hk with hk | hk
     · exact .inl (eq_of_beq hk)
     · exact .inr (.inl (eq_of_beq hk))
   · exact .inr (.inr (.inl hk))
   · exact .inr (.inr (.inr hk))
 rcases hc with rfl | rfl | rfl | rfl <;> exact ⟨by decide, by decide, by decide⟩
theorem Cut.ends {e : Bs} (he : endsS e = true) : Cut e := fun c t hc => by
 subst hc
 rw [endsS_cons] at he
 rcases Bool.or_eq_true _ _ ▸ he with h | h
 · exact .inr (.inl (UInt8.toNat_inj.1 (by have := eq_of_beq h; show c.toNat = 10; omega)))
 · exact .inr (.inr (UInt8.toNat_inj.1 (by have := eq_of_beq h; show c.toNat = 35; omega)))
theorem Cut.sp {b r : Bs} (hb : Sp b) : Cut (b ++ r) := fun c t hc => by
 cases b with
 | nil => exact absurd rfl hb.1
 | cons x b => rw [List.cons_append] at hc; injection hc with h1 _; subst h1; exact .inl (hb.2 _ List.mem_cons_self)
theorem Cut.blanks {b e : Bs} (hb : ∀ c ∈ b, blB c = true) (he : endsS e = true) : Cut (b ++ e) := fun c t hc => by
 cases b with
 | nil => exact Cut.ends he c t hc
 | cons x b => rw [List.cons_append] at hc; injection hc with h1 _; subst h1; exact .inl (hb _ List.mem_cons_self)
def glue : List (Bs × Bs) → Bs → Bs
 | [], e => e
 | p :: ps, e => p.1 ++ (p.2 ++ glue ps e)
theorem glue_app : ∀ (ps qs : List (Bs × Bs)) (e : Bs), glue (ps ++ qs) e = glue ps (glue qs e)
 | [], _, _ => rfl
 | p :: ps, qs, e => by rw [List.cons_append, glue, glue, glue_app ps qs e]
theorem glue_cut : ∀ (ps : List (Bs × Bs)) (e : Bs), (∀ p ∈ ps, Sp p.1) → Cut e → Cut (glue ps e)
 | [], _, _, h => h
 | p :: _ps, _e, hs, _ => Cut.sp (hs p List.mem_cons_self)
theorem word_cons {w r : Bs} (hw : wordB ⟨w.toArray⟩ = true) : ∃ c t, w ++ r = c :: t ∧ blB c = false ∧ endsS (c :: t) = false ∧ beginsS (c :: t) = true ∧ c ≠ 45 := by
 obtain ⟨hne, _, _, hb⟩ := word_parts hw
 have hB := begins_app (r := r) hne hb
 cases w with
 | nil => exact absurd rfl hne
 | cons c t =>
   have h := begins_ends hB
   exact ⟨c, t ++ r, rfl, h.2.1, h.1, hB, h.2.2⟩
theorem must_word {b w r : Bs} (hb : Sp b) (hw : wordB ⟨w.toArray⟩ = true) : mustS (b ++ (w ++ r)) = .ok (w ++ r) := by
 obtain ⟨c, t, h1, h2, h3, _⟩ := word_cons (r := r) hw
 rw [h1]; exact must_app hb h2 h3
theorem more_word {b w r : Bs} (hb : Sp b) (hw : wordB ⟨w.toArray⟩ = true) : moreS (b ++ (w ++ r)) = .ok (true, w ++ r) := by
 obtain ⟨c, t, h1, h2, h3, _⟩ := word_cons (r := r) hw
 rw [h1]; exact more_app hb h2 h3
theorem names_glue : ∀ (ps : List (Bs × Bs)) (acc : List Bs) (e : Bs), (∀ p ∈ ps, Sp p.1 ∧ wordB ⟨p.2.toArray⟩ = true) → Cut e → namesS ps.length acc (glue ps e) = .ok (acc ++ ps.map (·.2), e)
 | [], acc, e, _, _ => by rw [List.map_nil, List.append_nil]; rfl
 | p :: ps, acc, e, h, he => by
   have hp := h p List.mem_cons_self
   rw [List.length_cons, namesS, glue, must_word hp.1 hp.2]
   simp only []
   rw [nameS_app hp.2 (glue_cut ps e (fun q hq => (h q (List.mem_cons_of_mem _ hq)).1) he).stops]
   show namesS ps.length (acc ++ [p.2]) (glue ps e) = _
   rw [names_glue ps (acc ++ [p.2]) e (fun q hq => h q (List.mem_cons_of_mem _ hq)) he, List.map_cons, List.append_assoc]; rfl
theorem others_glue (most : Nat) (tb e : Bs) (htb : ∀ c ∈ tb, blB c = true) (he : endsS e = true) : ∀ (ps : List (Bs × Bs)) (f many : Nat) (ns : List Bs) (vs : List To), (∀ p ∈ ps, Sp p.1 ∧ wordB ⟨p.2.toArray⟩ = true) → ps.length < f → many + ps.length ≤ most →
   othersS false most f many ns vs (glue ps (tb ++ e)) = .ok ((ns ++ ps.map (·.2), vs), e)
 | [], f, many, ns, vs, _, hf, _ => by
   obtain ⟨g, rfl⟩ : ∃ g, f = g + 1 := ⟨f - 1, by simp at hf; omega⟩
   rw [othersS, glue, more_end htb he, List.map_nil, List.append_nil]
 | p :: ps, f, many, ns, vs, h, hf, hm => by
   obtain ⟨g, rfl⟩ : ∃ g, f = g + 1 := ⟨f - 1, by simp at hf; omega⟩
   have hp := h p List.mem_cons_self
   rw [othersS, glue, more_word hp.1 hp.2]
   simp only []
   rw [if_neg (by simp at hm; omega), nameS_app hp.2 (glue_cut ps _ (fun q hq => (h q (List.mem_cons_of_mem _ hq)).1) (Cut.blanks htb he)).stops]
   simp only [Bool.false_eq_true, if_false]
   rw [others_glue most tb e htb he ps g (many + 1) (ns ++ [p.2]) vs (fun q hq => h q (List.mem_cons_of_mem _ hq)) (by simp at hf; omega) (by simp at hm; omega), List.map_cons, List.append_assoc]; rfl
theorem wordS_app {ws : List Bs} {w r : Bs} {i : Nat} (hi : ws.findIdx? (fun s => s == w) = some i) (hw : ∀ c ∈ w, wcB c = true) (hr : Cut r) : wordS ws (w ++ r) = .ok (i, r) := by
 have hst : stretchS (w ++ r) = w := by
   unfold stretchS
   rw [List.takeWhile_append_of_pos hw]
   cases r with
   | nil => simp
   | cons c t => rw [List.takeWhile_cons, hr.byte.1]; simp
 have hwh : wholeS (w ++ r) = w := by
   unfold wholeS
   rw [hst, List.drop_left]
   cases r with
   | nil => rfl
   | cons c t => simp only [List.head?_cons]; rw [if_neg hr.byte.2.1]
 unfold wordS
 rw [hwh, hst, hi, List.drop_left]
end Yd


namespace Yd
open Go Go.RowKit Go.Proofs

def mostR (r : Int) : Int := if r = 115 then 40 else if r = 116 ∨ r = 109 then 300 else 0
structure LineW (w : World) (na : Option Addr) (nn nc : Nat) (va : Option Addr) (vn vc : Nat) (names : List Bs) (vers : List To) : Prop where
 rn : Row w 1 encStr na nn nc names
 rv : Row w 2 encTo va vn vc vers
 wn : ∀ s ∈ names, wordB ⟨s.toArray⟩ = true
 wv : ∀ t ∈ vers, toOk t
 g : GlobL w
 T : Lib.Utf8Tabs 2 3 w
theorem LineW.below {w w' : World} {na : Option Addr} {nn nc : Nat} {va : Option Addr} {vn vc : Nat} {names : List Bs} {vers : List To} (h : LineW w na nn nc va vn vc names vers) (hb : Below w.heap.size w w') : LineW w' na nn nc va vn vc names vers :=
 ⟨h.rn.below hb rfl, h.rv.below hb rfl, h.wn, h.wv, h.g.below hb, Utf8Tabs_below h.T hb⟩
theorem call_c1 : ∀ args w, (callFunc 50 args).run Tryz.prog w = .ok (.enter 50 args) w := enters_of Tryz.func50 (by kernel_rfl) rfl
theorem call_c2 : ∀ args w, (callFunc 53 args).run Tryz.prog w = .ok (.enter 53 args) w := enters_of Tryz.func53 (by kernel_rfl) rfl
theorem LineW.names {w : World} {na : Option Addr} {nn nc : Nat} {va : Option Addr} {vn vc : Nat} {names : List Bs} {vers : List To} (h : LineW w na nn nc va vn vc names vers) :
   Calls Tryz.prog 52 #[.slice na nn nc, .func (.func 53) #[] #[]] w (Ret (.bool false) w) := by
 have := contStr na nn nc 53 #[] names (fun s => !wordB ⟨s.toArray⟩) w h.rn call_c2 (fun x _ W hb => by simpa using check2_any x W (Utf8Tabs_below h.T hb))
 rwa [List.any_eq_false.2 (fun s hs => by simp [h.wn s hs])] at this
theorem LineW.vers {w : World} {na : Option Addr} {nn nc : Nat} {va : Option Addr} {vn vc : Nat} {names : List Bs} {vers : List To} (h : LineW w na nn nc va vn vc names vers) :
   Calls Tryz.prog 49 #[.slice va vn vc, .func (.func 50) #[] #[]] w (Ret (.bool false) w) := by
 have := contTo va vn vc 50 #[] vers (fun _ => false) w h.rv call_c1 (fun x hx W hb => by simpa using check1_ok x W (Utf8Tabs_below h.T hb) (h.wv x hx))
 rwa [List.any_eq_false.2 (fun s hs => by simp)] at this
theorem most_any (r : Int) (w : World) : Calls Tryz.prog 48 #[.int .i32 r] w (Ret (.int .i64 (mostR r)) w) := by
 by_cases h1 : r = 115
 · subst h1
   go_enter Tryz.func48, Tryz.ntmps48
   go_wp2_with fail
   go_ret
   exact ⟨rfl, Below.refl _ _⟩
 · have e1 : (r == 115) = false := beq_eq_false_iff_ne.2 h1
   by_cases h2 : r = 116
   · subst h2
     go_enter Tryz.func48, Tryz.ntmps48
     go_wp2_with fail
     go_ret
     exact ⟨rfl, Below.refl _ _⟩
   · have e2 : (r == 116) = false := beq_eq_false_iff_ne.2 h2
     by_cases h3 : r = 109
     · subst h3
       go_enter Tryz.func48, Tryz.ntmps48
       go_wp2_with fail
       go_ret
       exact ⟨rfl, Below.refl _ _⟩
     · have e3 : (r == 109) = false := beq_eq_false_iff_ne.2 h3
       have hm : mostR r = 0 := by unfold mostR; rw [if_neg h1, if_neg (by omega)]
       rw [hm]
       go_enter Tryz.func48, Tryz.ntmps48
       go_wp2_with fail
       go_ret
       exact ⟨rfl, Below.refl _ _⟩
end Yd


namespace Yd
open Go Go.RowKit Go.Proofs
theorem check_k1 (na : Option Addr) (nc : Nat) (va : Option Addr) (vc : Nat) (lv : Nat) (h1 : 1 ≤ lv) (h4 : lv ≤ 4) (names : List Bs) (vers : List To) (w : World) (hl : LineW w na 2 nc va 0 vc names vers) :
   Calls Tryz.prog 17 #[valLn ⟨1, na, 2, nc, lv, va, 0, vc, false, 0⟩] w (Ret (.int .i64 0) w) := by
 have HL := hid hl
 have hf := hl.g.2.1 1 (by decide)
 have hf1 := hf.1; have hf2 := hf.2.1; have hf3 := hf.2.2
 simp only [formV, formN, formR] at hf1 hf2 hf3
 have hb0 := cell_lt hf1
 simp only at hb0
 have HB0 := hid (belowA (belowA (Below.refl w.heap.size w) (.cells #[.int .i64 1, .slice na 2 nc, .int .i64 lv, .slice va 0 vc, .bool false, .int .i64 0] 28)) (.cells #[.string ⟨#[98, 101, 103, 105, 110]⟩, .int .i64 2, .int .i32 108] 76))
 have HX0 := hid ((Bx.new w #[.int .i64 1, .slice na 2 nc, .int .i64 lv, .slice va 0 vc, .bool false, .int .i64 0] 28).alloc (.cells #[.string ⟨#[98, 101, 103, 105, 110]⟩, .int .i64 2, .int .i32 108] 76))
 have HY0 : Hid (Bx ((w.alloc (.cells #[.int .i64 1, .slice na 2 nc, .int .i64 lv, .slice va 0 vc, .bool false, .int .i64 0] 28)).alloc (.cells #[.string ⟨#[98, 101, 103, 105, 110]⟩, .int .i64 2, .int .i32 108] 76)) (w.heap.size + 1) #[.string ⟨#[98, 101, 103, 105, 110]⟩, .int .i64 2, .int .i32 108]) := hid (Bx.new1 (by simp))
 have hlv : ((lv : Int) != 0) = true := by simp; omega
 clear hl hf
 go_enter Tryz.func17, Tryz.ntmps17
 go_wp2_with fail
 refine (most_any _ _).mono ?_
 rintro e w1 ⟨rfl, hb1⟩
 have hy1 := HX0.out.keep hb1; have hz1 := HY0.out.keep hb1
 have HX1 := hid hy1; have HY1 := hid hz1; have HB1 := hid (HB0.out.trans (hb1.mono HB0.out.size))
 have hcx1 := hy1.1; have hcy1 := hz1.1
 clear hb1 hy1 hz1
 simp only [mostR, Int.reduceEq, if_false]
 go_wp2_with fail
 refine (HL.out.below HB1.out).vers.mono ?_
 rintro e w2 ⟨rfl, hb2⟩
 have hy2 := HX1.out.keep hb2; have hz2 := HY1.out.keep hb2
 have HX2 := hid hy2; have HY2 := hid hz2; have HB2 := hid (HB1.out.trans (hb2.mono HB1.out.size))
 have hcx2 := hy2.1; have hcy2 := hz2.1
 clear hb2 hy2 hz2
 go_wp2_with fail
 refine (HL.out.below HB2.out).names.mono ?_
 rintro e w3 ⟨rfl, hb3⟩
 have hy3 := HX2.out.keep hb3; have hz3 := HY2.out.keep hb3
 have HX3 := hid hy3; have HY3 := hid hz3; have HB3 := hid (HB2.out.trans (hb3.mono HB2.out.size))
 have hcx3 := hy3.1; have hcy3 := hz3.1
 clear hb3 hy3 hz3
 go_wp2_with fail
 refine (level_yes lv h1 h4 _ (HL.out.below HB3.out).g).mono ?_
 rintro e w4 ⟨rfl, hb4⟩
 have hy4 := HX3.out.keep hb4; have hz4 := HY3.out.keep hb4
 have HX4 := hid hy4; have HY4 := hid hz4; have HB4 := hid (HB3.out.trans (hb4.mono HB3.out.size))
 have hcx4 := hy4.1; have hcy4 := hz4.1
 clear hb4 hy4 hz4
 go_wp2_with fail
 go_ret
 exact ⟨rfl, HB4.out⟩
end Yd


namespace Yd
open Go Go.RowKit Go.Proofs

structure ScanAt (h : HC) (l : LnC) (w0 w : World) (Lk : LnC) (ns : List Bs) (vs : List To) (X : World) : Prop where
 b0 : Bx X w.heap.size (cellsH h)
 b1 : Bx X (w.heap.size + 1) (cellsLn Lk)
 b3 : Bx X (w.heap.size + 3) #[.int .i64 0, .slice none 0 0, .int .i64 0, .slice none 0 0, .bool false, .int .i64 0]
 on : Own X w0.heap.size 9 1 encStr (.slice Lk.na Lk.nn Lk.nc) ns
 ov : Own X w0.heap.size 67 2 encTo (.slice Lk.va Lk.vn Lk.vc) vs
 fn : ∀ g, (Value.slice Lk.na Lk.nn Lk.nc).ownBlock = some g → g < w.heap.size ∨ w.heap.size + 4 ≤ g
 fv : ∀ g, (Value.slice Lk.va Lk.vn Lk.vc).ownBlock = some g → g < w.heap.size ∨ w.heap.size + 4 ≤ g
 be : Below w0.heap.size w0 X
 kw : Kept w l X
 gr : Grew w l Lk
 sz : w.heap.size + 4 ≤ X.heap.size
end Yd


namespace Yd
open Go Go.RowKit Go.Proofs

theorem Own.strs {X : World} {g : Nat} (h : X.heap.size = g) (l : List Bs) (hl : l.length ≤ maxLen) : Own (X.alloc (.cells (l.map (fun s => Value.string ⟨s.toArray⟩)).toArray 9)) g 9 1 encStr (.slice (some ⟨g, 0, none⟩) l.length l.length) l := by
 subst h
 exact Own.new (hc := cInsStr) X X.heap.size 9 _ l (Nat.le_refl _) (by
   show l.map (fun s => Value.string ⟨s.toArray⟩) = l.flatMap encStr
   induction l with
   | nil => rfl
   | cons a l ih => rw [List.map_cons, List.flatMap_cons, ih (by simp at hl; omega)]; rfl) hl

end Yd
