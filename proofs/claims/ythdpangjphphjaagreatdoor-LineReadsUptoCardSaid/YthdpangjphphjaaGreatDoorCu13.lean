import Derived.Test.YthdpangjphphjaaGreatDoorCuL
import Derived.Test.YthdpangjphphjaaGreatDoorCu5
import Derived.Test.YthdpangjphphjaaGreatDoorProg
import Derived.Test.YthdpangjphphjaaGreatDoorEnc
set_option maxRecDepth 200000
set_option maxHeartbeats 8000000
namespace Yd
open Go Go.RowKit Go.Proofs

def bindE {α β : Type} (x : Except Er (α × Bs)) (f : α → Bs → Except Er (β × Bs)) : Except Er (β × Bs) := match x with | .error e => .error e | .ok (a, r) => f a r
theorem bind_mk {α β : Type} (a : α) (l : Bs) (er : Int) (f : α → Bs → Except Er (β × Bs)) : bindE (mkR a l er) f = anyE er l (f a l) := by
 unfold mkR anyE
 by_cases h : er = 0
 · rw [if_pos h, if_pos h]; rfl
 · rw [if_neg h, if_neg h]; rfl
theorem any_bind {α β : Type} (x : Except Er (α × Bs)) (l : Bs) (er : Int) (f : α → Bs → Except Er (β × Bs)) : anyE er l (bindE x f) = bindE (anyE er l x) f := by
 unfold anyE
 by_cases h : er = 0
 · rw [if_pos h, if_pos h]
 · rw [if_neg h, if_neg h]; rfl
theorem any_step {α β : Type} {x : Except Er (α × Bs)} {l l' : Bs} {er er' : Int} {a : α} {f : α → Bs → Except Er (β × Bs)} {X : Except Er (β × Bs)} (hX : X = anyE er l (bindE x f)) (h : anyE er l x = mkR a l' er') : X = anyE er' l' (f a l') := by
 rw [hX, any_bind, h, bind_mk]
theorem mk_ok {α : Type} {x : Except Er (α × Bs)} {l l' : Bs} {er er' : Int} {a : α} (h : anyE er l x = mkR a l' er') (h0 : er' = 0) : er = 0 ∧ x = .ok (a, l') := by
 subst h0
 rw [mkR_0] at h
 by_cases he : er = 0
 · subst he; rw [anyE_0] at h; exact ⟨rfl, h⟩
 · rw [anyE_n _ he] at h; cases h
def namesD (k : Int) (most : Nat) : Nat → Nat → LnS → Bs → Except Er (LnS × Bs)
 | 0, _, n, l => .ok (n, l)
 | f + 1, many, n, l => bindE (moreS l) fun b r =>
   if b = false then .ok (n, r)
   else if k = 8 ∧ many = 0 ∧ n.first = false ∧ r.head? = some 45 then namesD k most f 0 { n with first := true } r.tail
   else bindE (if many = most ∧ beginsS r = true then .error (r, 3) else nameS r) fun nm r1 =>
     if k = 4 then bindE (mustU r1) fun _ r2 => bindE (versS r2) fun v r3 => namesD k most f (many + 1) (addV (addN n nm) v) r3
     else namesD k most f (many + 1) (addN n nm) r1
def asLn (n : LnS) (x : Except Er ((List Bs × List To) × Bs)) : Except Er (LnS × Bs) := match x with | .error e => .error e | .ok (b, r) => .ok ({ n with names := b.1, vers := b.2 }, r)
theorem asLn_add (n m : LnS) (x : Except Er ((List Bs × List To) × Bs)) (h : ∀ ns vs, ({ n with names := ns, vers := vs } : LnS) = { m with names := ns, vers := vs }) : asLn n x = asLn m x := by
 unfold asLn
 cases x with
 | error e => rfl
 | ok b => exact congrArg (fun y => Except.ok (y, b.2)) (h _ _)
theorem mustU_of (l : Bs) {β : Type} (f : Unit → Bs → Except Er (β × Bs)) : bindE (mustU l) f = (match mustS l with | .error x => .error x | .ok r => f () r) := by
 unfold mustU bindE
 cases mustS l <;> rfl
theorem names_others (k : Int) (most : Nat) (pairs : Bool) (hp : (k = 4) ↔ pairs = true) : ∀ (f many : Nat) (n : LnS) (l : Bs), (k = 8 → n.first = true ∨ 0 < many) →
   namesD k most f many n l = asLn n (othersS pairs most f many n.names n.vers l)
 | 0, many, n, l, _ => rfl
 | f + 1, many, n, l, h8 => by
   unfold namesD othersS
   cases hm : moreS l with
   | error x => rfl
   | ok y =>
     obtain ⟨b, r⟩ := y
     cases b
     · rfl
     · show (if true = false then .ok (n, r) else _) = _
       rw [if_neg (show ¬ (true = false) by simp), if_neg (show ¬ (k = 8 ∧ many = 0 ∧ n.first = false ∧ r.head? = some 45) by
         rintro ⟨h1, h2, h3, _⟩
         rcases h8 h1 with h | h
         · rw [h] at h3; cases h3
         · omega)]
       by_cases hb : many = most ∧ beginsS r = true
       · rw [if_pos hb]; simp only [if_pos hb]; rfl
       · rw [if_neg hb]; simp only [if_neg hb]
         cases hn : nameS r with
         | error x => rfl
         | ok z =>
           obtain ⟨nm, r1⟩ := z
           show (if k = 4 then _ else _) = _
           by_cases h4 : k = 4
           · rw [if_pos h4]
             simp only [if_pos (hp.1 h4)]
             rw [mustU_of]
             cases mustS r1 with
             | error x => rfl
             | ok r2 =>
               show bindE (versS r2) _ = _
               simp only []
               cases versS r2 with
               | error x => rfl
               | ok u =>
                 obtain ⟨v, r3⟩ := u
                 show namesD k most f (many + 1) (addV (addN n nm) v) r3 = _
                 rw [names_others k most pairs hp f (many + 1) (addV (addN n nm) v) r3 (fun _ => .inr (by omega))]
                 exact asLn_add _ _ _ (fun _ _ => rfl)
           · rw [if_neg h4]
             simp only [if_neg (fun e => h4 (hp.2 e))]
             rw [names_others k most pairs hp f (many + 1) (addN n nm) r1 (fun _ => .inr (by omega))]
             exact asLn_add _ _ _ (fun _ _ => rfl)
theorem nameS_nb {l : Bs} (h : beginsS l = false) : nameS l = .error (l, 220) := by unfold nameS; rw [if_pos (by rw [h]; simp)]
theorem others_fuel (pairs : Bool) (most : Nat) : ∀ (f many : Nat) (ns : List Bs) (vs : List To) (l : Bs), most + 1 ≤ f + many → many ≤ most → othersS pairs most (f + 1) many ns vs l = othersS pairs most f many ns vs l
 | 0, many, ns, vs, l, h1, h2 => by omega
 | f + 1, many, ns, vs, l, h1, h2 => by
   rw [othersS, othersS]
   cases moreS l with
   | error x => rfl
   | ok y =>
     obtain ⟨b, r⟩ := y
     cases b
     · rfl
     · simp only []
       by_cases hb : many = most ∧ beginsS r = true
       · rw [if_pos hb, if_pos hb]
       · rw [if_neg hb, if_neg hb]
         by_cases hm : many = most
         · have hbe : beginsS r = false := by
             cases h : beginsS r
             · rfl
             · exact absurd ⟨hm, h⟩ hb
           rw [nameS_nb hbe]
         · cases nameS r with
           | error x => rfl
           | ok z =>
             obtain ⟨nm, r1⟩ := z
             simp only []
             by_cases hp : pairs = true
             · rw [if_pos hp, if_pos hp]
               cases mustS r1 with
               | error x => rfl
               | ok r2 =>
                 simp only []
                 cases versS r2 with
                 | error x => rfl
                 | ok u => obtain ⟨v, r3⟩ := u; exact others_fuel pairs most f (many + 1) _ _ _ (by omega) (by omega)
             · rw [if_neg hp, if_neg hp]
               exact others_fuel pairs most f (many + 1) _ _ _ (by omega) (by omega)
theorem names_first (most : Nat) (n : LnS) (l : Bs) (hf : n.first = false) :
   namesD 8 most (most + 2) 0 n l = (match firstS l with | .error x => .error x | .ok (f, r) => asLn { n with first := f } (othersS false most (most + 1) 0 n.names n.vers r)) := by
 have h48 : ((8 : Int) = 4) ↔ (false = true) := ⟨fun h => absurd h (by decide), fun h => absurd h (by decide)⟩
 rw [namesD]
 cases hm : moreS l with
 | error x => rw [show firstS l = .error x by unfold firstS; rw [hm]]; rfl
 | ok y =>
   obtain ⟨b, r⟩ := y
   cases b
   · rw [show firstS l = .ok (false, l) by unfold firstS; rw [hm]]
     show Except.ok (n, r) = asLn { n with first := false } (othersS false most (most + 1) 0 n.names n.vers l)
     rw [othersS, hm]
     show Except.ok (n, r) = Except.ok ({ n with first := false }, r)
     obtain ⟨_, _, _, _, fi, _⟩ := n
     subst hf; rfl
   · have hF : firstS l = if r.head? = some 45 then .ok (true, r.tail) else .ok (false, l) := by unfold firstS; rw [hm]
     rw [hF]
     show (if true = false then .ok (n, r) else _) = _
     rw [if_neg (show ¬ (true = false) by simp)]
     by_cases h45 : r.head? = some 45
     · rw [if_pos (show (8 : Int) = 8 ∧ (0 : Nat) = 0 ∧ n.first = false ∧ r.head? = some 45 from ⟨rfl, rfl, hf, h45⟩), if_pos h45]
       exact names_others 8 most false h48 (most + 1) 0 { n with first := true } r.tail (fun _ => .inl rfl)
     · rw [if_neg (show ¬ ((8 : Int) = 8 ∧ (0 : Nat) = 0 ∧ n.first = false ∧ r.head? = some 45) from fun e => h45 e.2.2.2), if_neg h45]
       show _ = asLn { n with first := false } (othersS false most (most + 1) 0 n.names n.vers l)
       rw [← others_fuel false most (most + 1) 0 _ _ _ (by omega) (by omega), othersS, hm]
       show _ = asLn { n with first := false } (if 0 = most ∧ beginsS r = true then .error (r, 3) else _)
       by_cases hb : 0 = most ∧ beginsS r = true
       · rw [if_pos hb, if_pos hb]; rfl
       · rw [if_neg hb, if_neg hb]
         cases nameS r with
         | error x => rfl
         | ok z =>
           obtain ⟨nm, r1⟩ := z
           show namesD 8 most (most + 1) (0 + 1) (addN n nm) r1 = asLn { n with first := false } (othersS false most (most + 1) (0 + 1) (n.names ++ [nm]) n.vers r1)
           rw [names_others 8 most false h48 (most + 1) (0 + 1) (addN n nm) r1 (fun _ => .inr (by omega))]
           refine asLn_add _ _ _ (fun ns vs => ?_)
           obtain ⟨_, _, _, _, fi, _⟩ := n
           subst hf; rfl
def takesD : Nat → LnS → Bs → Except Er (LnS × Bs)
 | 0, n, l => .ok (n, l)
 | j + 1, n, l => bindE (mustU l) fun _ r => bindE (nameS r) fun nm r' => takesD j (addN n nm) r'
theorem takes_names : ∀ (j : Nat) (n : LnS) (l : Bs), takesD j n l = (match namesS j n.names l with | .error x => .error x | .ok (ns, r) => .ok ({ n with names := ns }, r))
 | 0, n, l => rfl
 | j + 1, n, l => by
   rw [takesD, mustU_of, namesS]
   cases mustS l with
   | error x => rfl
   | ok r =>
     simp only []
     cases nameS r with
     | error x => rfl
     | ok z =>
       obtain ⟨nm, r'⟩ := z
       show takesD j (addN n nm) r' = _
       rw [takes_names j (addN n nm) r']
def guarD : Nat → Nat → LnS → Bs → Except Er (LnS × Bs)
 | 0, _, n, l => .ok (n, l)
 | f + 1, k, n, l => bindE (moreS l) fun b r => if b = false then .ok (n, r) else bindE (oneS (guardL.drop k) r) fun i r' => guarD f (k + i + 1) { n with bits := n.bits + 2 ^ (k + i) } r'
theorem wc_guard (k : Nat) : ∀ x ∈ guardL.drop k, ∀ c ∈ x, wcB c = true := fun x hx => by
 have : ∀ x ∈ guardL, ∀ c ∈ x, wcB c = true := by decide
 exact this x (List.mem_of_mem_drop hx)
theorem guar_eq : ∀ (f k : Nat) (n : LnS) (l : Bs), guarD f k n l = (match guarS f k n.bits l with | .error x => .error x | .ok (b, r) => .ok ({ n with bits := b }, r))
 | 0, k, n, l => rfl
 | f + 1, k, n, l => by
   rw [guarD, guarS]
   cases moreS l with
   | error x => rfl
   | ok y =>
     obtain ⟨b, r⟩ := y
     cases b
     · rfl
     · show (if true = false then .ok (n, r) else _) = _
       rw [if_neg (show ¬ (true = false) by simp), one_word _ _ (wc_guard k)]
       simp only []
       cases wordS (guardL.drop k) r with
       | error x => rfl
       | ok z =>
         obtain ⟨i, r'⟩ := z
         show guarD f (k + i + 1) { n with bits := n.bits + 2 ^ (k + i) } r' = _
         rw [guar_eq f (k + i + 1) { n with bits := n.bits + 2 ^ (k + i) } r']
def midD (k : Nat) (n : LnS) (l : Bs) : Except Er (LnS × Bs) :=
 if k = 1 then bindE (mustU l) fun _ r => bindE (oneS levelL r) fun i r' => .ok ({ n with lvl := 1 + i }, r')
 else if k = 3 then bindE (mustU l) fun _ r => bindE (versS r) fun v r' => .ok (addV n v, r')
 else if k = 9 then guarD 5 0 n l
 else .ok (n, l)
def endD (k : Nat) (n : LnS) (l : Bs) : Except Er (LnS × Bs) :=
 if k = 4 then namesD 4 40 42 0 n l else if k = 7 then namesD 7 300 302 0 n l else if k = 8 then namesD 8 300 302 0 n l else .ok (n, l)
def restD (k : Nat) (n : LnS) (l : Bs) : Except Er (LnS × Bs) := bindE (takesD (formN k).toNat n l) fun n1 r => bindE (midD k n1 r) fun n2 r' => endD k n2 r'
theorem wc_level : ∀ x ∈ levelL, ∀ c ∈ x, wcB c = true := by decide
theorem wc_verb : ∀ x ∈ verbL, ∀ c ∈ x, wcB c = true := by decide
theorem tail_eq (k : Nat) (ns : List Bs) (l : Bs) : (bindE (midD k ⟨k, ns, 0, [], false, 0⟩ l) fun n2 r' => endD k n2 r') = tailS k ns l := by
 unfold midD endD tailS
 by_cases h1 : k = 1
 · subst h1
   rw [if_pos rfl, if_pos rfl, mustU_of]
   cases mustS l with
   | error x => rfl
   | ok r =>
     simp only []
     rw [one_word _ _ wc_level]
     cases wordS levelL r with
     | error x => rfl
     | ok z => rfl
 rw [if_neg h1, if_neg h1]
 by_cases h3 : k = 3
 · subst h3
   rw [if_pos rfl, if_pos rfl, mustU_of]
   cases mustS l with
   | error x => rfl
   | ok r =>
     simp only []
     cases versS r with
     | error x => rfl
     | ok z => rfl
 rw [if_neg h3, if_neg h3]
 by_cases h9 : k = 9
 · subst h9
   rw [if_pos rfl, if_pos rfl, guar_eq]
   show bindE (match guarS 5 0 0 l with | .error x => .error x | .ok (b, r) => .ok (_, r)) _ = _
   cases guarS 5 0 0 l with
   | error x => rfl
   | ok z => rfl
 rw [if_neg h9, if_neg h9]
 show (if k = 4 then _ else _) = _
 by_cases h8 : k = 8
 · subst h8
   rw [if_neg (by decide), if_neg (by decide), if_pos rfl, if_pos rfl, names_first 300 _ _ rfl]
   cases firstS l with
   | error x => rfl
   | ok z =>
     obtain ⟨f, r⟩ := z
     simp only []
     cases othersS false 300 (300 + 1) 0 ns [] r with
     | error x => rfl
     | ok u => rfl
 rw [if_neg h8, if_neg h8]
 by_cases h4 : k = 4
 · subst h4
   rw [if_pos rfl, if_pos rfl, names_others 4 40 true ⟨fun _ => rfl, fun _ => rfl⟩ 42 0 _ _ (fun h => by cases h), others_fuel true 40 41 0 _ _ _ (by omega) (by omega)]
   show asLn _ (othersS true 40 41 0 ns [] l) = _
   cases othersS true 40 41 0 ns [] l with
   | error x => rfl
   | ok u => rfl
 rw [if_neg h4, if_neg h4]
 by_cases h7 : k = 7
 · subst h7
   rw [if_pos rfl, if_pos rfl, names_others 7 300 false ⟨fun h => absurd h (by decide), fun h => absurd h (by decide)⟩ 302 0 _ _ (fun h => by cases h), others_fuel false 300 301 0 _ _ _ (by omega) (by omega)]
   show asLn _ (othersS false 300 301 0 ns [] l) = _
   cases othersS false 300 301 0 ns [] l with
   | error x => rfl
   | ok u => rfl
 rw [if_neg h7, if_neg h7]
def readD (l : Bs) : Except Er (LnS × Bs) :=
 if endsS (skipS l) = true then .ok (⟨0, [], 0, [], false, 0⟩, skipS l)
 else bindE (oneS verbL (skipS l)) fun i r => bindE (restD (i + 1) ⟨((i + 1 : Nat) : Int), [], 0, [], false, 0⟩ r) fun s r2 => bindE (moreS r2) fun b r3 => if b = true then .error (r3, 220) else .ok (s, r3)
theorem readD_eq (l : Bs) : readD l = readS l := by
 unfold readD readS
 by_cases h : endsS (skipS l) = true
 · rw [if_pos h, if_pos h]
 rw [if_neg h, if_neg h, one_word _ _ wc_verb]
 cases wordS verbL (skipS l) with
 | error x => rfl
 | ok z =>
   obtain ⟨i, r⟩ := z
   show bindE (restD (i + 1) _ r) _ = _
   simp only []
   unfold restD
   rw [takes_names]
   show bindE (bindE (match namesS (formN (i + 1)).toNat [] r with | .error x => .error x | .ok (ns, r) => .ok (_, r)) _) _ = _
   cases namesS (formN (i + 1)).toNat [] r with
   | error x => rfl
   | ok y =>
     obtain ⟨ns, r1⟩ := y
     show bindE (bindE (midD (i + 1) ⟨((i + 1 : Nat) : Int), ns, 0, [], false, 0⟩ r1) fun n2 r' => endD (i + 1) n2 r') _ = _
     rw [tail_eq]
     simp only []
     cases tailS (i + 1) ns r1 with
     | error x => rfl
     | ok y =>
       obtain ⟨s, r2⟩ := y
       show bindE (moreS r2) _ = _
       simp only []
       cases moreS r2 with
       | error x => rfl
       | ok v =>
         obtain ⟨b, r3⟩ := v
         cases b <;> rfl
end Yd


namespace Yd
open Go Go.RowKit Go.Proofs

theorem cu_name_no {B p : Nat} {s l : Bs} {er : Int} (w : World) (h : CuC w B s p l er) (he : er ≠ 0) : Calls Tryz.prog 91 #[.pointer (some ⟨B, 0, none⟩)] w (fun e w' => e = .returned (.string ⟨([] : Bs).toArray⟩) ∧ CuC w' B s p l er ∧ Cs B w w') := by
 have c2 := h.x.1 2
 have hb : (er != 0) = true := by simpa using he
 have HH := hid h
 clear h he
 go_enter Tryz.func91, Tryz.ntmps91
 go_wp2_with fail
 go_ret
 exact ⟨rfl, HH.out, Same.refl' _⟩
theorem CuC.to {w : World} {B p : Nat} {s l : Bs} {e : Int} (h : CuC w B s p l e) (q : Nat) (hq : q ≤ s.length) :
   CuC (w.setCell ⟨B, 1, none⟩ (.int .i64 (q : Int))) B s q (s.drop q) e ∧ Cs B w (w.setCell ⟨B, 1, none⟩ (.int .i64 (q : Int))) :=
 ⟨⟨h.x.setC 1 (by simp) (.int .i64 (q : Int)), rfl, hq, h.lim⟩, Same.setCell _ _ _ _ (fun e => e rfl)⟩
theorem cu_fails_at {B p : Nat} {s l : Bs} (w : World) (h : CuC w B s p l 0) (q : Nat) (hq : q ≤ s.length) (m : Int) :
   Calls Tryz.prog 34 #[.pointer (some ⟨B, 0, none⟩), .int .i64 (q : Int), .int .i64 m] w fun e w' => e = .returned (.tuple #[]) ∧ CuC w' B s q (s.drop q) m ∧ Cs B w w' := by
 have c2 := h.x.1 2; have z1 := h.x.2.1 1; have z2 := h.x.2.1 2; have c1 := h.x.1 1
 have h1 := h.to q hq
 have h2 := h1.1.err m
 have HR := hid (⟨h2.1, h1.2.tr h2.2⟩ : _ ∧ _)
 clear h h1 h2 hq
 go_enter Tryz.func34, Tryz.ntmps34
 go_wp2_with fail
 refine bodyPost_end (results_none rfl _ _ _) rfl ?_
 exact ⟨rfl, HR.out.1, HR.out.2⟩
def capF (n : Nat) (c : UInt8) : Nat := if n ≤ 999 then 10 * n + (c.toNat - 48) else n
def capV (l : Bs) : Nat := l.foldl capF 0
theorem cap_or (l : Bs) : ∀ a b : Nat, (a = b ∨ (999 < a ∧ 999 < b)) → (l.foldl capF a = l.foldl (fun n (c : UInt8) => n * 10 + (c.toNat - 48)) b ∨ (999 < l.foldl capF a ∧ 999 < l.foldl (fun n (c : UInt8) => n * 10 + (c.toNat - 48)) b)) := by
 induction l with
 | nil => intro a b h; exact h
 | cons c t ih =>
   intro a b h
   rw [List.foldl_cons, List.foldl_cons]
   refine ih _ _ ?_
   unfold capF
   split <;> omega
theorem capV_val (l : Bs) : (999 < capV l ↔ 999 < valD l) ∧ (capV l ≤ 999 → capV l = valD l) := by
 have := cap_or l 0 0 (.inl rfl)
 unfold capV valD
 constructor
 · constructor <;> omega
 · omega
theorem capV_le (l : Bs) : ∀ a, a ≤ 10000 → (∀ c ∈ l, digB c = true) → l.foldl capF a ≤ 10000 := by
 induction l with
 | nil => intro a h _; exact h
 | cons c t ih =>
   intro a h hd
   rw [List.foldl_cons]
   refine ih _ ?_ (fun x hx => hd x (List.mem_cons_of_mem _ hx))
   have := (digB_eq c).1 (hd c List.mem_cons_self)
   unfold capF
   split <;> omega
theorem capV_snoc (l : Bs) (c : UInt8) : capV (l ++ [c]) = capF (capV l) c := by unfold capV; rw [List.foldl_append]; rfl
structure DigAt (l : Bs) (k : Nat) : Prop where
 le : k ≤ l.length
 all : ∀ c ∈ l.take k, digB c = true
 no0 : 0 < k → l.head? ≠ some 48
theorem DigAt.zero (l : Bs) : DigAt l 0 := ⟨Nat.zero_le _, by simp, fun h => absurd h (by omega)⟩
theorem DigAt.step {l : Bs} {k : Nat} (h : DigAt l k) {x : UInt8} (hx : l[k]? = some x) (hd : digB x = true) (h0 : k = 0 → x ≠ 48) : DigAt l (k + 1) ∧ capV (l.take (k + 1)) = capF (capV (l.take k)) x := by
 have hlt : k < l.length := by
   rcases Nat.lt_or_ge k l.length with h | h
   · exact h
   · rw [List.getElem?_eq_none h] at hx; cases hx
 have ht : l.take (k + 1) = l.take k ++ [x] := by rw [List.take_add_one, hx]; rfl
 refine ⟨⟨hlt, fun c hc => ?_, fun _ => ?_⟩, by rw [ht, capV_snoc]⟩
 · rw [ht, List.mem_append] at hc
   rcases hc with hc | hc
   · exact h.all c hc
   · rw [List.mem_singleton.1 hc]; exact hd
 · rcases Nat.eq_zero_or_pos k with e | e
   · subst e
     have : l.head? = some x := by rw [List.head?_eq_getElem?]; exact hx
     rw [this]
     exact fun e => h0 rfl (Option.some.inj e)
   · exact h.no0 e
theorem takeW_eq0 (l : Bs) : ∀ k : Nat, k ≤ l.length → (∀ c ∈ l.take k, digB c = true) → (∀ x, l[k]? = some x → digB x = false) → l.takeWhile digB = l.take k := by
 induction l with
 | nil => intro k _ _ _; simp
 | cons c t ih =>
   intro k hle hall hs
   cases k with
   | zero =>
     have := hs c rfl
     rw [List.takeWhile_cons, this]; rfl
   | succ k =>
     have hc := hall c (by simp)
     rw [List.takeWhile_cons, hc, List.take_succ_cons]
     rw [ih k (by simpa using hle) (fun c hc => hall c (by simp; exact .inr hc)) (fun x hx => hs x (by simpa using hx))]
     rfl
theorem takeW_eq {l : Bs} {k : Nat} (h : DigAt l k) (hs : ∀ x, l[k]? = some x → digB x = false) : l.takeWhile digB = l.take k := takeW_eq0 l k h.le h.all hs
theorem numV_eq (nm l : Bs) (k : Nat) (h : DigAt l k) (hs : ∀ x, l[k]? = some x → digB x = false ∨ (k = 0 ∧ x = 48)) :
   numV nm l = if k = 0 then .error (l, 220) else if 999 < capV (l.take k) then .error (l, 3) else .ok (⟨nm, capV (l.take k)⟩, l.drop k) := by
 unfold numV
 rcases Nat.eq_zero_or_pos k with e | e
 · subst e
   rw [if_pos rfl]
   refine if_pos ?_
   cases l with
   | nil => exact .inl rfl
   | cons c t =>
     rcases hs c rfl with h1 | ⟨_, h1⟩
     · left; rw [List.takeWhile_cons, h1]; rfl
     · right; subst h1; rfl
 · have hs' : ∀ x, l[k]? = some x → digB x = false := fun x hx => (hs x hx).resolve_right (fun h => by omega)
   have ht := takeW_eq h hs'
   have hv := capV_val (l.take k)
   have hl : (l.take k).length = k := by rw [List.length_take]; have := h.le; omega
   have hh : (l.take k).head? = l.head? := by cases l with
     | nil => simp
     | cons c t => cases k with
       | zero => omega
       | succ k => rfl
   simp only [ht, hl]
   rw [if_neg (show ¬ k = 0 by omega), if_neg (show ¬ ((l.take k).head? = none ∨ (l.take k).head? = some 48) by
     rw [hh]
     rintro (h1 | h1)
     · have : l = [] := by simpa using h1
       have := h.le; simp [‹l = []›] at this; omega
     · exact h.no0 e h1)]
   by_cases h9 : 999 < capV (l.take k)
   · rw [if_pos h9, if_pos (hv.1.1 h9)]
   · rw [if_neg h9, if_neg (fun h => h9 (hv.1.2 h)), hv.2 (by omega)]
end Yd
