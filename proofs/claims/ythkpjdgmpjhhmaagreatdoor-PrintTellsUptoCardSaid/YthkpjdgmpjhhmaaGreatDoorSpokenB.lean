import Derived.Test.YthkpjdgmpjhhmaaGreatDoorSpokenA
import Derived.Test.YthkpjdgmpjhhmaaGreatDoorShaped
import Derived.Test.YthkpjdgmpjhhmaaGreatDoorProg
set_option maxRecDepth 200000
set_option maxHeartbeats 8000000
namespace Yd
open Go Go.RowKit Go.Proofs

def evN (e : EvC) (scan : List Sn) : List (Int × Int) :=
 (0, e.t) :: (if e.kind = 1 then [(1, e.ses)] else if e.kind = 2 ∨ e.kind = 3 then (2, e.obj) :: verN e.v else if e.kind = 4 then [(3, e.pred)] else []) ++ scan.flatMap (fun s => (2, s.obj) :: verN s.v)
def ordN (x : OrC) (ds : List Int) : List (Int × Int) := (2, x.obj) :: ds.map (fun d => (0, d))
def matN (x : MaC) (ds : List Int) : List (Int × Int) := (3, x.pred) :: (2, x.obj) :: ds.map (fun d => (0, d))
def wantN (x : Wa) : List (Int × Int) := [(1, x.ses)]
def spokenL (es : List EvC) (ds : List OrC) (ms : List MaC) (qs : List Wa) (scan : EvC → List Sn) (dn : OrC → List Int) (mn : MaC → List Int) : List (Int × Int) :=
 es.flatMap (fun e => evN e (scan e)) ++ ds.flatMap (fun x => ordN x (dn x)) ++ ms.flatMap (fun x => matN x (mn x)) ++ qs.flatMap wantN

def Reads (w X : World) : Prop := ∀ a v, w.cell? a = some v → X.cell? a = some v
theorem Reads.keep {w X Y : World} {D : Nat → Prop} (h : Reads w X) (k : KeepOn D X Y) (hd : ∀ i, i < w.heap.size → D i) (hs : w.heap.size ≤ X.heap.size) : Reads w Y := fun a v hc => by
 have hl := cell_lt hc
 rw [World.cell?_of_block (k.2 a.block (hd _ hl) (Nat.lt_of_lt_of_le hl hs))]
 exact h a v hc
theorem Row.reads {α : Type} {w X : World} {k : Nat} {enc : α → List Value} {a : Option Addr} {n c : Nat} {xs : List α} (h : Row w k enc a n c xs) (hr : Reads w X) : Row X k enc a n c xs := h.ext hr
end Yd


namespace Yd
open Go Go.RowKit Go.Proofs

def numS (st : (Nat → Int) × Bool) (x : Int × Int) : (Nat → Int) × Bool :=
 if st.2 = true ∧ x.2 ≤ st.1 x.1.toNat then (fun s => if s = x.1.toNat then (if x.2 + 1 > st.1 s then x.2 + 1 else st.1 s) else st.1 s, true) else (st.1, false)
def numF (xs : List (Int × Int)) : (Nat → Int) × Bool := xs.foldl numS (fun _ => 0, true)
theorem numF_snoc (xs : List (Int × Int)) (x : Int × Int) : numF (xs ++ [x]) = numS (numF xs) x := by simp [numF]
theorem numF_no {pre xs : List (Int × Int)} (h : pre <+: xs) (hf : (numF pre).2 = false) : (numF xs).2 = false := by
 obtain ⟨t, rfl⟩ := h
 rw [numF, List.foldl_append]
 show (t.foldl numS (numF pre)).2 = false
 generalize numF pre = st at hf
 induction t generalizing st with
 | nil => exact hf
 | cons y t ih => exact ih _ (by simp [numS, hf])
theorem numS_no {st : (Nat → Int) × Bool} {x : Int × Int} (h : x.2 > st.1 x.1.toNat) : (numS st x).2 = false := by
 unfold numS; rw [if_neg (by omega)]
theorem numS_yes {m : Nat → Int} {b : Bool} {s : Nat} {n : Int} (hb : b = true) (h : n ≤ m s) : numS (m, b) ((s : Int), n) = (fun i => if i = s then (if n + 1 > m i then n + 1 else m i) else m i, true) := by
 unfold numS; rw [if_pos ⟨hb, by simpa using h⟩]; simp

theorem told_bd {n : Int} {m : Nat} (h : toldB n m = true) : 0 ≤ n ∧ n < m := by simpa [toldB] using h
theorem ver_bd {v : Ver} {nt : Nat} (h : verB v nt = true) (hk : 0 < v.k) : 0 ≤ v.t ∧ v.t < nt := by
 unfold verB at h
 rw [if_neg (by omega)] at h
 simp only [Bool.and_eq_true] at h
 exact told_bd h.1.1
def numOk (x : Int × Int) : Prop := (0 ≤ x.1 ∧ x.1 < 4) ∧ 0 ≤ x.2 ∧ x.2 < 300
theorem verN_ok {v : Ver} {nt : Nat} (h : verB v nt = true) (hn : nt ≤ 300) : ∀ x ∈ verN v, numOk x := by
 intro x hx
 unfold verN at hx
 split at hx
 · obtain rfl : x = (0, v.t) := by simpa using hx
   have := ver_bd h ‹_›
   exact ⟨⟨by simp, by simp⟩, this.1, by have := this.2; show v.t < 300; omega⟩
 · cases hx
theorem pair_ok {a n : Int} {m : Nat} (ha : 0 ≤ a) (ha4 : a < 4) (h : toldB n m = true) (hm : m ≤ 300) : numOk (a, n) :=
 ⟨⟨ha, ha4⟩, (told_bd h).1, by have := (told_bd h).2; show n < 300; omega⟩
theorem evN_ok {nt ns no np : Nat} {e : EvC} {scan : List Sn} (h : evB nt ns no np e scan = true) (h1 : nt ≤ 300) (h2 : ns ≤ 300) (h3 : no ≤ 300) (h4 : np ≤ 300) : ∀ x ∈ evN e scan, numOk x := by
 simp only [evB, Bool.and_eq_true] at h
 obtain ⟨⟨⟨⟨_, _⟩, ht⟩, hh⟩, hb⟩ := h
 have hscan : ∀ s ∈ scan, numOk (2, s.obj) ∧ ∀ x ∈ verN s.v, numOk x := by
   intro s hs
   by_cases k4 : e.kind = 4
   · simp [hasB, k4] at hh
     obtain ⟨⟨_, _⟩, ha⟩ := hh
     have := ha s hs
     simp only [seenB, Bool.and_eq_true] at this
     exact ⟨pair_ok (by decide) (by decide) this.1 h3, verN_ok this.2 h1⟩
   · have hn : scan = [] := by
       unfold bareB at hb
       rw [if_neg k4] at hb
       split at hb
       · simpa using (by simp only [Bool.and_eq_true, decide_eq_true_eq] at hb; exact hb.2)
       · split at hb <;> (simp only [Bool.and_eq_true, decide_eq_true_eq] at hb; exact hb.2)
     rw [hn] at hs; cases hs
 intro x hx
 simp only [evN, List.mem_append, List.mem_cons, List.mem_flatMap] at hx
 rcases hx with (rfl | hx) | ⟨s, hs, hx⟩
 · exact pair_ok (by decide) (by decide) ht h1
 · unfold hasB at hh
   split at hx
   · rw [if_pos ‹_›] at hh
     obtain rfl : x = (1, e.ses) := by simpa using hx
     simp only [Bool.and_eq_true] at hh
     exact pair_ok (by decide) (by decide) hh.1 h2
   · rename_i k1
     rw [if_neg k1] at hh
     split at hx
     · rename_i k23
       have hov : toldB e.obj no = true ∧ verB e.v nt = true := by
         rcases k23 with k2 | k3
         · rw [if_pos k2] at hh; simp only [Bool.and_eq_true] at hh; exact hh.1.1
         · rw [if_neg (by omega), if_pos k3] at hh; simp only [Bool.and_eq_true] at hh; exact hh
       rcases List.mem_cons.1 hx with rfl | hx
       · exact pair_ok (by decide) (by decide) hov.1 h3
       · exact verN_ok hov.2 h1 x hx
     · rename_i k23
       split at hx
       · rename_i k4
         rw [if_neg (by omega), if_neg (by omega), if_pos k4] at hh
         simp only [Bool.and_eq_true] at hh
         obtain rfl : x = (3, e.pred) := by simpa using hx
         exact pair_ok (by decide) (by decide) hh.1.1 h4
       · cases hx
 · rcases hx with rfl | hx
   · exact (hscan s hs).1
   · exact (hscan s hs).2 x hx
theorem spoken_ok {h : HC} {nl : Nat → List Bs} {es : List EvC} {ds : List OrC} {ms : List MaC} {qs : List Wa} {scan : EvC → List Sn} {dn : OrC → List Int} {mn : MaC → List Int} (hs : shapedB h nl es ds ms qs scan dn mn = true)
   (hlen : ∀ i, i < 4 → (nl i).length = (h.nm i).n) : ∀ x ∈ spokenL es ds ms qs scan dn mn, numOk x := by
 simp only [shapedB, namesB, Bool.and_eq_true, List.all_eq_true, List.mem_range] at hs
 obtain ⟨⟨⟨⟨⟨_, hnm⟩, he⟩, hd⟩, hm⟩, hw⟩ := hs
 have lim : ∀ i, i < 4 → (h.nm i).n ≤ 300 := fun i hi => by
   have := hnm i hi
   simp only [listB, Bool.and_eq_true, decide_eq_true_eq] at this
   have h1 := this.1
   rw [hlen i hi] at h1
   have : limH i ≤ 300 := by
     match i, hi with
     | 0, _ => decide
     | 1, _ => decide
     | 2, _ => decide
     | 3, _ => decide
   omega
 have lt : h.t.n ≤ 300 := lim 0 (by decide)
 have ls : h.s.n ≤ 300 := lim 1 (by decide)
 have lo : h.o.n ≤ 300 := lim 2 (by decide)
 have lp : h.p.n ≤ 300 := lim 3 (by decide)
 have ltd : ∀ (l : List Int), allowB h.t.n l = true → ∀ x ∈ l.map (fun d => ((0 : Int), d)), numOk x := fun l hl x hx => by
   obtain ⟨d, hdm, rfl⟩ := List.mem_map.1 hx
   simp only [allowB, Bool.and_eq_true, List.all_eq_true] at hl
   exact pair_ok (by decide) (by decide) (hl.2 d hdm) lt
 intro x hx
 simp only [spokenL, List.mem_append, List.mem_flatMap] at hx
 rcases hx with ((⟨e, hem, hx⟩ | ⟨d, hdm, hx⟩) | ⟨m, hmm, hx⟩) | ⟨q, hqm, hx⟩
 · exact evN_ok (he e hem) lt ls lo lp x hx
 · have := hd d hdm
   simp only [ordB, Bool.and_eq_true] at this
   rcases List.mem_cons.1 hx with rfl | hx
   · exact pair_ok (by decide) (by decide) this.1 lo
   · exact ltd _ this.2 x hx
 · have := hm m hmm
   simp only [matB, Bool.and_eq_true] at this
   rcases List.mem_cons.1 hx with rfl | hx
   · exact pair_ok (by decide) (by decide) this.1.1 lp
   · rcases List.mem_cons.1 hx with rfl | hx
     · exact pair_ok (by decide) (by decide) this.1.2 lo
     · exact ltd _ this.2 x hx
 · have := hw q hqm
   simp only [wantB, Bool.and_eq_true] at this
   obtain rfl : x = (1, q.ses) := by simpa [wantN] using hx
   exact pair_ok (by decide) (by decide) this.1.1 ls
end Yd
