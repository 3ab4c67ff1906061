import Derived.Test.YthdpangjphphjaaGreatDoorHd
import Derived.Test.YthdpangjphphjaaGreatDoorOrdP
import Derived.Test.YthdpangjphphjaaGreatDoorProg
set_option maxRecDepth 200000
set_option maxHeartbeats 8000000
namespace Yd
open Go Go.RowKit Go.Proofs

theorem comm_drop {x t : Bs} {k : Nat} {a : UInt8} (h1 : x[k]? = some a) (h2 : t[k]? = some a) : commS (x.drop k) (t.drop k) = commS (x.drop (k + 1)) (t.drop (k + 1)) + 1 := by
 obtain ⟨l1, e1⟩ := List.getElem?_eq_some_iff.1 h1
 obtain ⟨l2, e2⟩ := List.getElem?_eq_some_iff.1 h2
 rw [List.drop_eq_getElem_cons l1, List.drop_eq_getElem_cons l2, e1, e2]
 simp [commS]
theorem comm_stop {x t : Bs} {k : Nat} (h : x.length ≤ k ∨ t.length ≤ k ∨ ∃ a b, x[k]? = some a ∧ t[k]? = some b ∧ a ≠ b) : commS (x.drop k) (t.drop k) = 0 := by
 rcases h with h | h | ⟨a, b, h1, h2, h3⟩
 · rw [List.drop_eq_nil_of_le h]; simp [commS]
 · rw [List.drop_eq_nil_of_le h]; cases x.drop k <;> simp [commS]
 · obtain ⟨l1, e1⟩ := List.getElem?_eq_some_iff.1 h1
   obtain ⟨l2, e2⟩ := List.getElem?_eq_some_iff.1 h2
   rw [List.drop_eq_getElem_cons l1, List.drop_eq_getElem_cons l2, e1, e2]
   simp [commS, h3]
theorem comm_le (x t : Bs) : commS x t ≤ t.length := by
 induction x generalizing t with
 | nil => simp [commS]
 | cons a x ih =>
   cases t with
   | nil => simp [commS]
   | cons b t =>
     simp only [commS]
     split
     · have := ih t; simp; omega
     · simp
theorem far_snoc (ws : List Bs) (s t : Bs) : farS (ws ++ [s]) t = max (farS ws t) (commS s t) := by simp [farS]
theorem far_le (ws : List Bs) (t : Bs) : farS ws t ≤ t.length := by
 have : ∀ (ws : List Bs) (m : Nat), m ≤ t.length → ws.foldl (fun m s => max m (commS s t)) m ≤ t.length := by
   intro ws
   induction ws with
   | nil => intro m hm; exact hm
   | cons s ws ih => intro m hm; exact ih (max m (commS s t)) (Nat.max_le.2 ⟨hm, comm_le s t⟩)
 exact this ws 0 (Nat.zero_le _)
theorem rd_word {R p : Nat} {s l : Bs} {c : LnC} {n : LnS} (w : World) (h : RdC w R s p l c n) (a : Option Addr) (nn cc : Nat) (ws : List Bs) (hr : Row w 1 encStr a nn cc ws) (hnn : nn ≤ 100) (hw : ∀ x ∈ ws, x.length ≤ 100) (hwa : ∀ x ∈ ws, (128 : UInt8) ∉ x) :
   Calls Tryz.prog 72 #[.pointer (some ⟨R, 0, none⟩), .slice a nn cc] w (RdRet R s c n w (fun i : Nat => .int .i64 i) (wordS ws l)) := by
 have HS := hid (rd_stretch w h)
 obtain ⟨X, hX⟩ : ∃ X, X = wordS ws l := ⟨_, rfl⟩
 rw [← hX]
 obtain ⟨T, hT⟩ : ∃ T, T = stretchS l := ⟨_, rfl⟩
 rw [← hT] at HS
 obtain ⟨Wh, hWh⟩ : ∃ Wh, Wh = wholeS l := ⟨_, rfl⟩
 have hTl : T.length ≤ l.length := by rw [hT]; have := len_takeWhile wcB l; unfold stretchS; omega
 have hcs : (l.drop T.length = [] ∧ Wh = T) ∨ (∃ b t, l.drop T.length = b :: t ∧ b.toNat < 128 ∧ Wh = T) ∨ (∃ b t, l.drop T.length = b :: t ∧ 128 ≤ b.toNat ∧ Wh = T ++ [128]) := by
   unfold wholeS at hWh
   rw [← hT] at hWh
   cases hd : l.drop T.length with
   | nil => rw [hd] at hWh; exact .inl ⟨rfl, hWh⟩
   | cons b t =>
     rw [hd] at hWh
     simp only [List.head?_cons] at hWh
     by_cases h1 : (128 : UInt8) ≤ b
     · rw [if_pos h1] at hWh; exact .inr (.inr ⟨b, t, rfl, h1, hWh⟩)
     · rw [if_neg h1] at hWh; exact .inr (.inl ⟨b, t, rfl, Nat.lt_of_not_le h1, hWh⟩)
 have hlen := h.len; have hlim := h.lim
 have HX := hid hX; have HT := hid hT; have HWH := hid hWh; have HH := hid h; have HR := hid hr; have HW := hid hw; have HWA := hid hwa
 have hz := bsz s; have hzT := bsz T
 clear hX hT hWh h hr hw hwa
 rcases hcs with ⟨hd, hWT⟩ | ⟨b, t, hd, hb, hWT⟩ | ⟨b, t, hd, hb, hWT⟩
 · have hend : p + T.length = s.length := by
     have := congrArg List.length hd
     simp at this; omega
   subst hWT
   have hd1 : decide ((p : Int) + (Wh.length : Int) < (s.length : Int)) = false := decide_eq_false (by omega)
   clear hd
   go_enter Tryz.func72, Tryz.ntmps72
   go_wp2_with fail
   refine HS.out.mono ?_
   rintro e w1 ⟨rfl, hb1⟩
   have H1 := hid (HH.out.below hb1); have HB1 := hid hb1
   have c0 := H1.out.c0; have c1 := H1.out.c1
   clear hb1
   go_wp2_with (go_quiet (fail))
   clear hd1 c0 c1
   go_loopw [8, 47] (fun f i wr => ∃ k m : Nat, k ≤ nn ∧ i = .int .i64 k ∧ f = .int .i64 m ∧ m = farS (ws.take k) Wh ∧ (∀ x ∈ ws.take k, x ≠ Wh) ∧ Below w.heap.size w wr) (fun _ i _ => nn - (RowKit.intOf i).toNat)
   case atStart => exact ⟨0, 0, Nat.zero_le _, rfl, rfl, rfl, by simp, belowN HB1.out _⟩
   case round =>
     obtain ⟨k, m, hk, rfl, rfl, hm, hne, hbw⟩ := hrel
     have hmt : m ≤ Wh.length := by rw [hm]; exact far_le _ _
     have hml : m ≤ 1000000 := by omega
     by_cases hlt : k < nn
     · obtain ⟨x, b', o, hx, rfl, hc⟩ := (HR.out.below hbw rfl).at_ hlt
       have hc0 := hc 0 _ rfl
       simp only [Nat.mul_one, Nat.add_zero] at hc0
       have hxw : x ∈ ws := List.mem_of_getElem? hx
       have hxl := HW.out x hxw
       have HBW := hid hbw; have HM := hid hm; have HNE := hid hne; have HXX := hid hx; have HXW := hid hxw
       have HC := hid (HH.out.below hbw)
       have c1 := HC.out.c1; have z1 := f1 HC.out 1
       clear hc hbw hm hne hx hxw
       cases hxe : x == Wh
       · clear c1 z1
         have END : Hid (∀ (W' : World) (q : Nat), Below w.heap.size w W' → commS x Wh = q → ∃ k' m' : Nat, k' ≤ nn ∧ Value.int .i64 ((k : Int) + 1) = .int .i64 k' ∧ Value.int .i64 (max (m : Int) (q : Int)) = .int .i64 m' ∧ m' = farS (ws.take k') Wh ∧ (∀ y ∈ ws.take k', y ≠ Wh) ∧ Below w.heap.size w W') := hid (fun W' q hb hq =>
           ⟨k + 1, max m q, by omega, by rw [Int.natCast_add]; rfl, congrArg (Value.int .i64) (by omega), by rw [List.take_add_one, HXX.out, Option.toList_some, far_snoc, hq, ← HM.out], fun y hy => by
             rw [List.take_add_one, HXX.out] at hy
             rcases List.mem_append.1 hy with hy | hy
             · exact HNE.out y hy
             · obtain rfl : y = x := by simpa using hy
               exact fun e => by rw [e] at hxe; simp at hxe, hb⟩)
         go_wp2_with fail
         go_loopw [11] (fun j wx => ∃ W, W = wx ∧ ∃ q : Nat, j = .int .i64 q ∧ q ≤ Wh.length ∧ q ≤ x.length ∧ commS (x.drop q) (Wh.drop q) + q = commS x Wh ∧ Below w.heap.size w W) (fun j _ => Wh.length - (RowKit.intOf j).toNat)
         case atStart => exact ⟨_, rfl, 0, rfl, Nat.zero_le _, Nat.zero_le _, by simp, HBW.out⟩
         case round =>
           obtain ⟨W, rfl, q, rfl, hqT, hqx, hcm, hbx⟩ := hrel
           have HBX := hid hbx; have HCM := hid hcm
           clear hbx hcm
           by_cases h1 : q < x.length
           · by_cases h2 : q < Wh.length
             · have hd3 : decide ((q : Int) < min (x.length : Int) (Wh.length : Int)) = true := decide_eq_true (by omega)
               obtain ⟨a1, ha1⟩ : ∃ a1, x[q]? = some a1 := ⟨_, List.getElem?_eq_getElem h1⟩
               obtain ⟨a2, ha2⟩ : ∃ a2, Wh[q]? = some a2 := ⟨_, List.getElem?_eq_getElem h2⟩
               have hi1 := fun W => run_ix Tryz.underlying9 x q a1 ha1 W
               have hi2 := fun W => run_ix Tryz.underlying9 Wh q a2 ha2 W
               have HA1 := hid ha1; have HA2 := hid ha2; have HL := hid (⟨h1, h2⟩ : _ ∧ _)
               clear ha1 ha2 h1 h2
               by_cases he : a1 = a2
               · have hb : ((a1.toNat : Int) == (a2.toNat : Int)) = true := by simp [he]
                 have HE := hid he; clear he
                 go_wp2_with (go_quiet (fail))
                 go_roundw
                 case rel => exact ⟨_, rfl, q + 1, by go_num, HL.out.2, HL.out.1, by have := comm_drop HA1.out (HE.out ▸ HA2.out); have := HCM.out; omega, belowN HBX.out _⟩
                 case measure => have := HL.out.2; simp [RowKit.intOf]; omega
               · have hb : ((a1.toNat : Int) == (a2.toNat : Int)) = false := beq_eq_false_iff_ne.2 (fun e => he (UInt8.toNat_inj.1 (by omega)))
                 have HE := hid he; clear he
                 go_wp2_with (go_quiet (fail))
                 go_roundw
                 case rel => exact END.out _ q (belowN HBX.out _) (by have := comm_stop (.inr (.inr ⟨a1, a2, HA1.out, HA2.out, HE.out⟩)); have := HCM.out; omega)
                 case measure => simp [RowKit.intOf]; omega
             · have hd3 : decide ((q : Int) < min (x.length : Int) (Wh.length : Int)) = false := decide_eq_false (by omega)
               have HL := hid h2; clear h2
               go_wp2_with (go_quiet (fail))
               go_roundw
               case rel => exact END.out _ q (belowN HBX.out _) (by have := comm_stop (x := x) (t := Wh) (k := q) (.inr (.inl (by have := HL.out; omega))); have := HCM.out; omega)
               case measure => simp [RowKit.intOf]; omega
           · have hd3 : decide ((q : Int) < min (x.length : Int) (Wh.length : Int)) = false := decide_eq_false (by omega)
             have HL := hid h1; clear h1
             go_wp2_with (go_quiet (fail))
             go_roundw
             case rel => exact END.out _ q (belowN HBX.out _) (by have := comm_stop (x := x) (t := Wh) (k := q) (.inl (by have := HL.out; omega)); have := HCM.out; omega)
             case measure => simp [RowKit.intOf]; omega
       · obtain ⟨q, hq⟩ : ∃ q : Nat, q = p + Wh.length := ⟨_, rfl⟩
         have hxW : x = Wh := by simpa using hxe
         have hqi : (p : Int) + (x.length : Int) = (q : Int) := by rw [hxW]; omega
         have hqb : q ≤ 1000000 := by omega
         have ht := HC.out.to Wh.length rfl hTl q hq
         have HT2 := hid ht.1; have HM2 := hid ((Mv.of_below (R := R) (c := c) HBW.out).trans ht.2)
         have HWO : Hid (wordS ws l = .ok (k, l.drop Wh.length)) := hid (by
           unfold wordS
           rw [← HT.out, ← HWH.out, findIdx?_take (fun s => s == Wh) ws k (List.findIdx?_eq_none_iff.2 (fun y hy => by simpa using HNE.out y hy)) x HXX.out hxe])
         clear ht hq hxW
         go_wp2_with fail
         go_ret
         show RdRet R s c n w _ _ _ _
         rw [HX.out, HWO.out]
         exact ⟨rfl, q, HT2.out, HM2.out⟩
     · obtain rfl : k = nn := by omega
       have hF : ∀ W, Calls Tryz.prog 27 #[.int .i64 ((p : Int) + (m : Int)), .int .i64 220] W (fun e w' => e = .panicked (wrongP (p + m) 220) ∧ w' = W) := fun W => by
         have := rd_fail (p + m) 220 W
         rwa [Int.natCast_add] at this
       have HF := fun W => hid (hF W)
       have htk : ws.take k = ws := List.take_of_length_le (by rw [HR.out.len]; exact Nat.le_refl _)
       rw [htk] at hm hne
       have HWO : Hid (wordS ws l = .error (l.drop m, 220)) := hid (by
         unfold wordS
         rw [← HT.out, ← HWH.out, List.findIdx?_eq_none_iff.2 (fun y hy => by simpa using hne y hy), ← hm])
       have HBW := hid hbw
       have HC := hid (HH.out.below hbw)
       have c1 := HC.out.c1
       clear hm hne hbw hF htk
       go_wp2_with fail
       refine (HF _).out.mono ?_
       rintro e w4 ⟨rfl, rfl⟩
       refine ⟨rfl, ?_⟩
       show RdRet R s c n w _ _ _ _
       rw [HX.out, HWO.out]
       refine ⟨?_, Same.of_below HBW.out (fun _ _ h => h)⟩
       rw [show s.length - (l.drop m).length = p + m by rw [List.length_drop]; omega]
 · have hend : p + T.length < s.length := by
     have := congrArg List.length hd
     simp at this; omega
   subst hWT
   have hd1 : decide ((p : Int) + (Wh.length : Int) < (s.length : Int)) = true := decide_eq_true (by omega)
   have hsb : s[p + Wh.length]? = some b := by
     have := congrArg (fun l => l[0]?) hd
     rw [← HH.out.d] at this
     simpa using this
   have hix := fun W => run_ix Tryz.underlying9 s (p + Wh.length) b hsb W
   rw [Int.natCast_add] at hix
   have hb1' : decide ((128 : Int) ≤ (b.toNat : Int)) = false := decide_eq_false (by omega)
   clear hd hsb
   go_enter Tryz.func72, Tryz.ntmps72
   go_wp2_with fail
   refine HS.out.mono ?_
   rintro e w1 ⟨rfl, hb1⟩
   have H1 := hid (HH.out.below hb1); have HB1 := hid hb1
   have c0 := H1.out.c0; have c1 := H1.out.c1
   clear hb1
   go_wp2_with (go_quiet (fail))
   clear hd1 c0 c1
   go_loopw [8, 47] (fun f i wr => ∃ k m : Nat, k ≤ nn ∧ i = .int .i64 k ∧ f = .int .i64 m ∧ m = farS (ws.take k) Wh ∧ (∀ x ∈ ws.take k, x ≠ Wh) ∧ Below w.heap.size w wr) (fun _ i _ => nn - (RowKit.intOf i).toNat)
   case atStart => exact ⟨0, 0, Nat.zero_le _, rfl, rfl, rfl, by simp, belowN HB1.out _⟩
   case round =>
     obtain ⟨k, m, hk, rfl, rfl, hm, hne, hbw⟩ := hrel
     have hmt : m ≤ Wh.length := by rw [hm]; exact far_le _ _
     have hml : m ≤ 1000000 := by omega
     by_cases hlt : k < nn
     · obtain ⟨x, b', o, hx, rfl, hc⟩ := (HR.out.below hbw rfl).at_ hlt
       have hc0 := hc 0 _ rfl
       simp only [Nat.mul_one, Nat.add_zero] at hc0
       have hxw : x ∈ ws := List.mem_of_getElem? hx
       have hxl := HW.out x hxw
       have HBW := hid hbw; have HM := hid hm; have HNE := hid hne; have HXX := hid hx; have HXW := hid hxw
       have HC := hid (HH.out.below hbw)
       have c1 := HC.out.c1; have z1 := f1 HC.out 1
       clear hc hbw hm hne hx hxw
       cases hxe : x == Wh
       · clear c1 z1
         have END : Hid (∀ (W' : World) (q : Nat), Below w.heap.size w W' → commS x Wh = q → ∃ k' m' : Nat, k' ≤ nn ∧ Value.int .i64 ((k : Int) + 1) = .int .i64 k' ∧ Value.int .i64 (max (m : Int) (q : Int)) = .int .i64 m' ∧ m' = farS (ws.take k') Wh ∧ (∀ y ∈ ws.take k', y ≠ Wh) ∧ Below w.heap.size w W') := hid (fun W' q hb hq =>
           ⟨k + 1, max m q, by omega, by rw [Int.natCast_add]; rfl, congrArg (Value.int .i64) (by omega), by rw [List.take_add_one, HXX.out, Option.toList_some, far_snoc, hq, ← HM.out], fun y hy => by
             rw [List.take_add_one, HXX.out] at hy
             rcases List.mem_append.1 hy with hy | hy
             · exact HNE.out y hy
             · obtain rfl : y = x := by simpa using hy
               exact fun e => by rw [e] at hxe; simp at hxe, hb⟩)
         go_wp2_with fail
         go_loopw [11] (fun j wx => ∃ W, W = wx ∧ ∃ q : Nat, j = .int .i64 q ∧ q ≤ Wh.length ∧ q ≤ x.length ∧ commS (x.drop q) (Wh.drop q) + q = commS x Wh ∧ Below w.heap.size w W) (fun j _ => Wh.length - (RowKit.intOf j).toNat)
         case atStart => exact ⟨_, rfl, 0, rfl, Nat.zero_le _, Nat.zero_le _, by simp, HBW.out⟩
         case round =>
           obtain ⟨W, rfl, q, rfl, hqT, hqx, hcm, hbx⟩ := hrel
           have HBX := hid hbx; have HCM := hid hcm
           clear hbx hcm
           by_cases h1 : q < x.length
           · by_cases h2 : q < Wh.length
             · have hd3 : decide ((q : Int) < min (x.length : Int) (Wh.length : Int)) = true := decide_eq_true (by omega)
               obtain ⟨a1, ha1⟩ : ∃ a1, x[q]? = some a1 := ⟨_, List.getElem?_eq_getElem h1⟩
               obtain ⟨a2, ha2⟩ : ∃ a2, Wh[q]? = some a2 := ⟨_, List.getElem?_eq_getElem h2⟩
               have hi1 := fun W => run_ix Tryz.underlying9 x q a1 ha1 W
               have hi2 := fun W => run_ix Tryz.underlying9 Wh q a2 ha2 W
               have HA1 := hid ha1; have HA2 := hid ha2; have HL := hid (⟨h1, h2⟩ : _ ∧ _)
               clear ha1 ha2 h1 h2
               by_cases he : a1 = a2
               · have hb : ((a1.toNat : Int) == (a2.toNat : Int)) = true := by simp [he]
                 have HE := hid he; clear he
                 go_wp2_with (go_quiet (fail))
                 go_roundw
                 case rel => exact ⟨_, rfl, q + 1, by go_num, HL.out.2, HL.out.1, by have := comm_drop HA1.out (HE.out ▸ HA2.out); have := HCM.out; omega, belowN HBX.out _⟩
                 case measure => have := HL.out.2; simp [RowKit.intOf]; omega
               · have hb : ((a1.toNat : Int) == (a2.toNat : Int)) = false := beq_eq_false_iff_ne.2 (fun e => he (UInt8.toNat_inj.1 (by omega)))
                 have HE := hid he; clear he
                 go_wp2_with (go_quiet (fail))
                 go_roundw
                 case rel => exact END.out _ q (belowN HBX.out _) (by have := comm_stop (.inr (.inr ⟨a1, a2, HA1.out, HA2.out, HE.out⟩)); have := HCM.out; omega)
                 case measure => simp [RowKit.intOf]; omega
             · have hd3 : decide ((q : Int) < min (x.length : Int) (Wh.length : Int)) = false := decide_eq_false (by omega)
               have HL := hid h2; clear h2
               go_wp2_with (go_quiet (fail))
               go_roundw
               case rel => exact END.out _ q (belowN HBX.out _) (by have := comm_stop (x := x) (t := Wh) (k := q) (.inr (.inl (by have := HL.out; omega))); have := HCM.out; omega)
               case measure => simp [RowKit.intOf]; omega
           · have hd3 : decide ((q : Int) < min (x.length : Int) (Wh.length : Int)) = false := decide_eq_false (by omega)
             have HL := hid h1; clear h1
             go_wp2_with (go_quiet (fail))
             go_roundw
             case rel => exact END.out _ q (belowN HBX.out _) (by have := comm_stop (x := x) (t := Wh) (k := q) (.inl (by have := HL.out; omega)); have := HCM.out; omega)
             case measure => simp [RowKit.intOf]; omega
       · obtain ⟨q, hq⟩ : ∃ q : Nat, q = p + Wh.length := ⟨_, rfl⟩
         have hxW : x = Wh := by simpa using hxe
         have hqi : (p : Int) + (x.length : Int) = (q : Int) := by rw [hxW]; omega
         have hqb : q ≤ 1000000 := by omega
         have ht := HC.out.to Wh.length rfl hTl q hq
         have HT2 := hid ht.1; have HM2 := hid ((Mv.of_below (R := R) (c := c) HBW.out).trans ht.2)
         have HWO : Hid (wordS ws l = .ok (k, l.drop Wh.length)) := hid (by
           unfold wordS
           rw [← HT.out, ← HWH.out, findIdx?_take (fun s => s == Wh) ws k (List.findIdx?_eq_none_iff.2 (fun y hy => by simpa using HNE.out y hy)) x HXX.out hxe])
         clear ht hq hxW
         go_wp2_with fail
         go_ret
         show RdRet R s c n w _ _ _ _
         rw [HX.out, HWO.out]
         exact ⟨rfl, q, HT2.out, HM2.out⟩
     · obtain rfl : k = nn := by omega
       have hF : ∀ W, Calls Tryz.prog 27 #[.int .i64 ((p : Int) + (m : Int)), .int .i64 220] W (fun e w' => e = .panicked (wrongP (p + m) 220) ∧ w' = W) := fun W => by
         have := rd_fail (p + m) 220 W
         rwa [Int.natCast_add] at this
       have HF := fun W => hid (hF W)
       have htk : ws.take k = ws := List.take_of_length_le (by rw [HR.out.len]; exact Nat.le_refl _)
       rw [htk] at hm hne
       have HWO : Hid (wordS ws l = .error (l.drop m, 220)) := hid (by
         unfold wordS
         rw [← HT.out, ← HWH.out, List.findIdx?_eq_none_iff.2 (fun y hy => by simpa using hne y hy), ← hm])
       have HBW := hid hbw
       have HC := hid (HH.out.below hbw)
       have c1 := HC.out.c1
       clear hm hne hbw hF htk
       go_wp2_with fail
       refine (HF _).out.mono ?_
       rintro e w4 ⟨rfl, rfl⟩
       refine ⟨rfl, ?_⟩
       show RdRet R s c n w _ _ _ _
       rw [HX.out, HWO.out]
       refine ⟨?_, Same.of_below HBW.out (fun _ _ h => h)⟩
       rw [show s.length - (l.drop m).length = p + m by rw [List.length_drop]; omega]
 · have hend : p + T.length < s.length := by
     have := congrArg List.length hd
     simp at this; omega
   have hd1 : decide ((p : Int) + (T.length : Int) < (s.length : Int)) = true := decide_eq_true (by omega)
   have hsb : s[p + T.length]? = some b := by
     have := congrArg (fun l => l[0]?) hd
     rw [← HH.out.d] at this
     simpa using this
   have hix := fun W => run_ix Tryz.underlying9 s (p + T.length) b hsb W
   rw [Int.natCast_add] at hix
   have hb1' : decide ((128 : Int) ≤ (b.toNat : Int)) = true := decide_eq_true (by omega)
   have hcat : ((⟨T.toArray⟩ : ByteArray) ++ ⟨#[128]⟩) = ⟨Wh.toArray⟩ := by rw [hWT]; exact cat2 T [128]
   have HWT := hid hWT
   clear hd hsb hWT
   go_enter Tryz.func72, Tryz.ntmps72
   go_wp2_with fail
   refine HS.out.mono ?_
   rintro e w1 ⟨rfl, hb1⟩
   have H1 := hid (HH.out.below hb1); have HB1 := hid hb1
   have c0 := H1.out.c0; have c1 := H1.out.c1
   clear hb1
   go_wp2_with (go_quiet (fail))
   clear hd1 c0 c1
   go_loopw [8, 47] (fun f i wr => ∃ k m : Nat, k ≤ nn ∧ i = .int .i64 k ∧ f = .int .i64 m ∧ m = farS (ws.take k) T ∧ (∀ x ∈ ws.take k, x ≠ Wh) ∧ Below w.heap.size w wr) (fun _ i _ => nn - (RowKit.intOf i).toNat)
   case atStart => exact ⟨0, 0, Nat.zero_le _, rfl, rfl, rfl, by simp, belowN HB1.out _⟩
   case round =>
     obtain ⟨k, m, hk, rfl, rfl, hm, hne, hbw⟩ := hrel
     have hmt : m ≤ T.length := by rw [hm]; exact far_le _ _
     have hml : m ≤ 1000000 := by omega
     by_cases hlt : k < nn
     · obtain ⟨x, b', o, hx, rfl, hc⟩ := (HR.out.below hbw rfl).at_ hlt
       have hc0 := hc 0 _ rfl
       simp only [Nat.mul_one, Nat.add_zero] at hc0
       have hxw : x ∈ ws := List.mem_of_getElem? hx
       have hxl := HW.out x hxw
       have HBW := hid hbw; have HM := hid hm; have HNE := hid hne; have HXX := hid hx; have HXW := hid hxw
       have HC := hid (HH.out.below hbw)
       have c1 := HC.out.c1; have z1 := f1 HC.out 1
       clear hc hbw hm hne hx hxw
       cases hxe : x == Wh
       · clear c1 z1
         have END : Hid (∀ (W' : World) (q : Nat), Below w.heap.size w W' → commS x T = q → ∃ k' m' : Nat, k' ≤ nn ∧ Value.int .i64 ((k : Int) + 1) = .int .i64 k' ∧ Value.int .i64 (max (m : Int) (q : Int)) = .int .i64 m' ∧ m' = farS (ws.take k') T ∧ (∀ y ∈ ws.take k', y ≠ Wh) ∧ Below w.heap.size w W') := hid (fun W' q hb hq =>
           ⟨k + 1, max m q, by omega, by rw [Int.natCast_add]; rfl, congrArg (Value.int .i64) (by omega), by rw [List.take_add_one, HXX.out, Option.toList_some, far_snoc, hq, ← HM.out], fun y hy => by
             rw [List.take_add_one, HXX.out] at hy
             rcases List.mem_append.1 hy with hy | hy
             · exact HNE.out y hy
             · obtain rfl : y = x := by simpa using hy
               exact fun e => by rw [e] at hxe; simp at hxe, hb⟩)
         go_wp2_with fail
         go_loopw [11] (fun j wx => ∃ W, W = wx ∧ ∃ q : Nat, j = .int .i64 q ∧ q ≤ T.length ∧ q ≤ x.length ∧ commS (x.drop q) (T.drop q) + q = commS x T ∧ Below w.heap.size w W) (fun j _ => T.length - (RowKit.intOf j).toNat)
         case atStart => exact ⟨_, rfl, 0, rfl, Nat.zero_le _, Nat.zero_le _, by simp, HBW.out⟩
         case round =>
           obtain ⟨W, rfl, q, rfl, hqT, hqx, hcm, hbx⟩ := hrel
           have HBX := hid hbx; have HCM := hid hcm
           clear hbx hcm
           by_cases h1 : q < x.length
           · by_cases h2 : q < T.length
             · have hd3 : decide ((q : Int) < min (x.length : Int) (T.length : Int)) = true := decide_eq_true (by omega)
               obtain ⟨a1, ha1⟩ : ∃ a1, x[q]? = some a1 := ⟨_, List.getElem?_eq_getElem h1⟩
               obtain ⟨a2, ha2⟩ : ∃ a2, T[q]? = some a2 := ⟨_, List.getElem?_eq_getElem h2⟩
               have hi1 := fun W => run_ix Tryz.underlying9 x q a1 ha1 W
               have hi2 := fun W => run_ix Tryz.underlying9 T q a2 ha2 W
               have HA1 := hid ha1; have HA2 := hid ha2; have HL := hid (⟨h1, h2⟩ : _ ∧ _)
               clear ha1 ha2 h1 h2
               by_cases he : a1 = a2
               · have hb : ((a1.toNat : Int) == (a2.toNat : Int)) = true := by simp [he]
                 have HE := hid he; clear he
                 go_wp2_with (go_quiet (fail))
                 go_roundw
                 case rel => exact ⟨_, rfl, q + 1, by go_num, HL.out.2, HL.out.1, by have := comm_drop HA1.out (HE.out ▸ HA2.out); have := HCM.out; omega, belowN HBX.out _⟩
                 case measure => have := HL.out.2; simp [RowKit.intOf]; omega
               · have hb : ((a1.toNat : Int) == (a2.toNat : Int)) = false := beq_eq_false_iff_ne.2 (fun e => he (UInt8.toNat_inj.1 (by omega)))
                 have HE := hid he; clear he
                 go_wp2_with (go_quiet (fail))
                 go_roundw
                 case rel => exact END.out _ q (belowN HBX.out _) (by have := comm_stop (.inr (.inr ⟨a1, a2, HA1.out, HA2.out, HE.out⟩)); have := HCM.out; omega)
                 case measure => simp [RowKit.intOf]; omega
             · have hd3 : decide ((q : Int) < min (x.length : Int) (T.length : Int)) = false := decide_eq_false (by omega)
               have HL := hid h2; clear h2
               go_wp2_with (go_quiet (fail))
               go_roundw
               case rel => exact END.out _ q (belowN HBX.out _) (by have := comm_stop (x := x) (t := T) (k := q) (.inr (.inl (by have := HL.out; omega))); have := HCM.out; omega)
               case measure => simp [RowKit.intOf]; omega
           · have hd3 : decide ((q : Int) < min (x.length : Int) (T.length : Int)) = false := decide_eq_false (by omega)
             have HL := hid h1; clear h1
             go_wp2_with (go_quiet (fail))
             go_roundw
             case rel => exact END.out _ q (belowN HBX.out _) (by have := comm_stop (x := x) (t := T) (k := q) (.inl (by have := HL.out; omega)); have := HCM.out; omega)
             case measure => simp [RowKit.intOf]; omega
       · exfalso
         have hxW : x = Wh := by simpa using hxe
         have h128 := HWA.out x HXW.out
         rw [hxW, HWT.out] at h128
         exact h128 (by simp)
     · obtain rfl : k = nn := by omega
       have hF : ∀ W, Calls Tryz.prog 27 #[.int .i64 ((p : Int) + (m : Int)), .int .i64 220] W (fun e w' => e = .panicked (wrongP (p + m) 220) ∧ w' = W) := fun W => by
         have := rd_fail (p + m) 220 W
         rwa [Int.natCast_add] at this
       have HF := fun W => hid (hF W)
       have htk : ws.take k = ws := List.take_of_length_le (by rw [HR.out.len]; exact Nat.le_refl _)
       rw [htk] at hm hne
       have HWO : Hid (wordS ws l = .error (l.drop m, 220)) := hid (by
         unfold wordS
         rw [← HT.out, ← HWH.out, List.findIdx?_eq_none_iff.2 (fun y hy => by simpa using hne y hy), ← hm])
       have HBW := hid hbw
       have HC := hid (HH.out.below hbw)
       have c1 := HC.out.c1
       clear hm hne hbw hF htk
       go_wp2_with fail
       refine (HF _).out.mono ?_
       rintro e w4 ⟨rfl, rfl⟩
       refine ⟨rfl, ?_⟩
       show RdRet R s c n w _ _ _ _
       rw [HX.out, HWO.out]
       refine ⟨?_, Same.of_below HBW.out (fun _ _ h => h)⟩
       rw [show s.length - (l.drop m).length = p + m by rw [List.length_drop]; omega]
end Yd
