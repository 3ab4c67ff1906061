import Derived.Test.YthkpjdgmpjhhmaaGreatDoorBld
import Derived.Test.YthkpjdgmpjhhmaaGreatDoorRangeF
import Derived.Test.YthkpjdgmpjhhmaaGreatDoorProg
import Derived.Test.YthkpjdgmpjhhmaaGreatDoorLinesC
import Derived.Test.YthkpjdgmpjhhmaaGreatDoorLineO
import Derived.Test.YthkpjdgmpjhhmaaGreatDoorWords
set_option maxRecDepth 200000
set_option maxHeartbeats 8000000
namespace Yd
open Go Go.RowKit Go.Proofs Go.Shelf

structure BldAt (bb l : Nat) (s : Bs) (X : World) : Prop where
 is : Lib.IsBuilderF 38 5 bb bb (Lib.byteCells s) X
 fr : ∀ p v, X.heap[bb]? = some (.cells #[p, v] 38 (0, 0)) → v.ownBlock ≠ some l ∧ v.ownBlock ≠ some (l + 1)
theorem BldAt.lt {bb l : Nat} {s : Bs} {X : World} (h : BldAt bb l s X) : bb < X.heap.size := by
 rcases h.is with ⟨_, v, hb, _⟩ | ⟨_, v, hb, _⟩ <;> exact (Array.getElem?_eq_some_iff.1 hb).1
theorem ownsRowF_block {X Y : World} {B : Nat} {e : TypeId} {k : Nat} {v : Value} {n : Nat} {xs : List Value} (h : X.ownsRowF B e k v n xs) (hk : ∀ g, v.ownBlock = some g → Y.heap[g]? = X.heap[g]?) : Y.ownsRowF B e k v n xs := by
 obtain ⟨h1, h2⟩ := h
 refine ⟨h1, ?_⟩
 rcases h2 with h2 | ⟨g, cap, cur, fz, rfl, hB, hh, r⟩
 · exact .inl h2
 · exact .inr ⟨g, cap, cur, fz, rfl, hB, (hk g rfl).trans hh, r⟩
theorem bldF_same {bb l : Nat} {p : Value} {bs : List Value} {X Y : World} (h : Lib.BuilderAtF 38 5 bb bb p bs X) (hs : Same (fun i => i < l ∨ l + 2 ≤ i) X Y) (hl : bb < l)
   (hf : ∀ p v, X.heap[bb]? = some (.cells #[p, v] 38 (0, 0)) → v.ownBlock ≠ some l ∧ v.ownBlock ≠ some (l + 1)) : Lib.BuilderAtF 38 5 bb bb p bs Y := by
 obtain ⟨hB, v, hb, hown, hne⟩ := h
 have hv := hf _ _ hb
 refine ⟨hB, v, (hs.block _ (.inl hl) (Array.getElem?_eq_some_iff.1 hb).1).trans hb, ownsRowF_block hown (fun g hg => hs.block g ?_ (hown.lt g hg).2), hne⟩
 have h1 : g ≠ l := fun e => hv.1 (e ▸ hg)
 have h2 : g ≠ l + 1 := fun e => hv.2 (e ▸ hg)
 omega
theorem BldAt.same {bb l : Nat} {s : Bs} {X Y : World} (h : BldAt bb l s X) (hs : Same (fun i => i < l ∨ l + 2 ≤ i) X Y) (hl : bb < l) : BldAt bb l s Y :=
 ⟨h.is.elim (fun x => .inl (bldF_same x hs hl h.fr)) (fun x => .inr (bldF_same x hs hl h.fr)), fun p v hb => h.fr p v ((hs.block bb (.inl hl) h.lt).symm.trans hb)⟩
theorem BldAt.wrote {bb l : Nat} {s s' : Bs} {X Y : World} (_h : BldAt bb l s X) (hY : Lib.IsBuilderF 38 5 bb bb (Lib.byteCells s') Y) (hk : Lib.OthersKept 5 (some bb) X Y) (hl : bb < l)
   {o o' : Obj} (h1 : X.heap[l]? = some o) (h2 : X.heap[l + 1]? = some o') (c1 : ∀ c fz, o ≠ .cells c 5 fz) (c2 : ∀ c fz, o' ≠ .cells c 5 fz) : BldAt bb l s' Y := by
 refine ⟨hY, fun p v hb => ?_⟩
 have k1 := hk l o h1 (by simp; omega) c1
 have k2 := hk (l + 1) o' h2 (by simp; omega) c2
 have hown : ∃ n xs, Y.ownsRowF bb 5 1 v n xs := by
   rcases hY with ⟨_, v', hb', hown, _⟩ | ⟨_, v', hb', hown, _⟩ <;> (rw [hb] at hb'; cases hb'; exact ⟨_, _, hown⟩)
 obtain ⟨n, xs, hown⟩ := hown
 refine ⟨fun hg => ?_, fun hg => ?_⟩
 · obtain ⟨c, fz, e⟩ := Lib.ownsRowF_kind hown l hg
   rw [k1] at e; cases e; exact c1 _ _ rfl
 · obtain ⟨c, fz, e⟩ := Lib.ownsRowF_kind hown (l + 1) hg
   rw [k2] at e; cases e; exact c2 _ _ rfl
theorem BldAt.call {bb l : Nat} {s : Bs} {X Y : World} (h : BldAt bb l s X) (hb : Below X.heap.size X Y) : BldAt bb l s Y := by
 have hk : ∀ p bs, Lib.BuilderAtF 38 5 bb bb p bs X → Lib.BuilderAtF 38 5 bb bb p bs Y := by
   rintro p bs ⟨hB, v, hb', hown, hne⟩
   exact ⟨hB, v, (hb.block _ h.lt).trans hb', ownsRowF_block hown (fun g hg => hb.block g (hown.lt g hg).2), hne⟩
 exact ⟨h.is.imp (hk _ _) (hk _ _), fun p v hb' => h.fr p v ((hb.block bb h.lt).symm.trans hb')⟩
end Yd


namespace Yd
open Go Go.RowKit Go.Proofs

def textA (ls : List LnS) : Bs := ls.flatMap textS
section
variable (h : HC) (nl : Nat → List Bs) (es : List EvC) (ds : List OrC) (ms : List MaC) (qs : List Wa) (scan : EvC → List Sn) (dn : OrC → List Int) (mn : MaC → List Int) (w : World) (hg : GlobH w)
   (hn : ∀ i, i < 4 → Row w 1 encStr (h.nm i).a (h.nm i).n (h.nm i).c (nl i)) (hd : Deep w h es ds ms qs scan dn mn)
include hg hn hd
theorem ptext_no (hc : checkB h nl es ds ms qs scan dn mn = false) : Calls Tryz.prog 12 #[valH h] w (Ret2 (.string ⟨#[]⟩) (.int .i64 210) w) := by
 have hb0 := belowA (belowA (belowA (Below.refl w.heap.size w) (.cells (cellsH h) 28)) (.cells #[.string ⟨#[]⟩] 9)) (.cells #[.int .i64 0] 32)
 have HC := hid (check_any h nl es ds ms qs scan dn mn _ (hg.below hb0) (fun i hi => (hn i hi).below hb0 rfl) (hd.below hb0 rfl))
 rw [hc] at HC
 have HB := hid hb0
 have HX1 := hid (Bx.alloc (Bx.new1 (b := w.heap.size + 1) (cs := #[.string ⟨#[]⟩]) (X := w.alloc (.cells (cellsH h) 28)) (T := 9) (by simp)) (.cells #[.int .i64 0] 32))
 have HX2 : Hid (Bx (((w.alloc (.cells (cellsH h) 28)).alloc (.cells #[.string ⟨#[]⟩] 9)).alloc (.cells #[.int .i64 0] 32)) (w.heap.size + 2) #[.int .i64 0]) := hid (Bx.new1 (by simp))
 clear hg hn hd hc hb0
 go_enter Tryz.func12, Tryz.ntmps12
 go_wp2_with fail
 refine HC.out.mono ?_
 rintro e w1 ⟨rfl, hb1⟩
 have HB1 := hid (HB.out.trans (hb1.mono HB.out.size))
 have hx1 := HX1.out.keep hb1; have hx2 := HX2.out.keep hb1
 have hc1 := hx1.1; have hf1 := hx1.2.1; have hl1 := hx1.2.2
 have hc2 := hx2.1; have hf2 := hx2.2.1; have hl2 := hx2.2.2
 clear hb1 hx1 hx2
 rw [show checkE false = 210 from rfl]
 go_wp2_with fail
 have hy1 : Bx ((w1.setCell ⟨w.heap.size + 1, 0, none⟩ (.string ⟨#[]⟩)).setCell ⟨w.heap.size + 2, 0, none⟩ (.int .i64 210)) (w.heap.size + 1) #[.string ⟨#[]⟩] :=
   (Same.setTail (A := fun i => i ≠ w.heap.size + 2) (Same.refl' _) (by simp)).bx (Bx.set1 (X := w1) ⟨hc1, hf1, hl1⟩ _) (by simp)
 have hy2 : Bx ((w1.setCell ⟨w.heap.size + 1, 0, none⟩ (.string ⟨#[]⟩)).setCell ⟨w.heap.size + 2, 0, none⟩ (.int .i64 210)) (w.heap.size + 2) #[.int .i64 210] :=
   Bx.set1 ((Same.setTail (A := fun i => i ≠ w.heap.size + 1) (Same.refl' _) (by simp)).bx ⟨hc2, hf2, hl2⟩ (by simp)) _
 have e1 := hy1.1 0; have e2 := hy2.1 0
 have f1 := hy1.2.1 0; have f2 := hy2.2.1 0
 refine bodyPost_ret (v := .tuple #[.string ⟨#[]⟩, .int .i64 210]) (by simp [results, Tryz.results12, go_sem, e1, e2]) rfl ⟨rfl, ?_⟩
 exact (HB1.out.setCell (p := ⟨w.heap.size + 1, 0, none⟩) (by simp) _).setCell (p := ⟨w.heap.size + 2, 0, none⟩) (by simp) _
end
end Yd
