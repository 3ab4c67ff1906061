import Derived.Test.YthkpjdgmpjhhmaaGreatDoorProg
import Derived.Test.YthkpjdgmpjhhmaaGreatDoorGround
import Derived.BigQuiet
set_option maxRecDepth 200000
set_option maxHeartbeats 8000000
namespace Yd
open Go Go.RowKit Go.Proofs

theorem idxEv (a : Option Addr) (n c f : Nat) (cap : Array Value) (cs : List EvC) (p : EvC → Bool) (w : World) (hr : Row w 9 encEv a n c cs)
   (eg : ∀ args w, (callFunc f args).run Tryz.prog w = .ok (.enter f args) w) (hp : Asks Tryz.prog f cap valEv p cs w) :
   Calls Tryz.prog 94 #[.slice a n c, .func (.func f) #[] cap] w (Ret (.int .i64 (idx p cs)) w) := by
 have hn := hr.le
 have H := hid hp; clear hp
 have HR := hid hr; clear hr
 go_enter Tryz.func94, Tryz.ntmps94
 go_wp2_with fail
 go_loopw [8] (fun i wr => ∃ k : Nat, k ≤ n ∧ i = .int .i64 k ∧ (cs.take k).findIdx? p = none ∧ Below w.heap.size w wr) (fun i _ => n - (intOf i).toNat)
 case atStart => exact ⟨0, Nat.zero_le _, rfl, rfl, Below.refl _ _⟩
 case round =>
   obtain ⟨k, hk, rfl, hf, hb⟩ := hrel
   by_cases hlt : k < n
   · obtain ⟨x, b, o, hx, rfl, hc⟩ := HR.out.at_ hlt
     have h0 := bget hb rfl (hc 0 _ rfl)
     have h1 := bget hb rfl (hc 1 _ rfl)
     have h2 := bget hb rfl (hc 2 _ rfl)
     have h3 := bget hb rfl (hc 3 _ rfl)
     have h4 := bget hb rfl (hc 4 _ rfl)
     have h5 := bget hb rfl (hc 5 _ rfl)
     have h6 := bget hb rfl (hc 6 _ rfl)
     have h7 := bget hb rfl (hc 7 _ rfl)
     have h8 := bget hb rfl (hc 8 _ rfl)
     simp only [Nat.add_zero] at h0
     have hcall := H.out x (List.mem_of_getElem? hx) wr hb
     have HX := hid hx; have HF := hid hf
     clear hc hx hf
     cases hpx : p x
     all_goals
       rw [hpx] at hcall
       have HC := hid hcall; have HP := hid hpx
       clear hcall hpx
       go_wp2_with fail
       refine HC.out.mono ?_
       rintro e w1 ⟨rfl, hb1⟩
       go_wp2_with fail
     · go_roundw
       case rel => exact ⟨k + 1, by omega, by go_num, findIdx?_snoc p cs k HF.out x HX.out HP.out, hb.trans (hb1.mono hb.size)⟩
       case measure => simp [intOf]; omega
     · go_ret
       refine ⟨?_, hb.trans (hb1.mono hb.size)⟩
       rw [idx_some (findIdx?_take p cs k HF.out x HX.out HP.out)]; rfl
   · have hkn : k = n := by omega
     have HF := hid hf; clear hf
     go_wp2_with fail
     go_ret
     refine ⟨?_, hb⟩
     have e : cs.take k = cs := List.take_of_length_le (by rw [HR.out.len]; omega)
     rw [idx_none (xs := cs) (by rw [← e]; exact HF.out)]; rfl

theorem idxTo (a : Option Addr) (n c f : Nat) (cap : Array Value) (cs : List To) (p : To → Bool) (w : World) (hr : Row w 2 encTo a n c cs)
   (eg : ∀ args w, (callFunc f args).run Tryz.prog w = .ok (.enter f args) w) (hp : Asks Tryz.prog f cap valTo p cs w) :
   Calls Tryz.prog 80 #[.slice a n c, .func (.func f) #[] cap] w (Ret (.int .i64 (idx p cs)) w) := by
 have hn := hr.le
 have H := hid hp; clear hp
 have HR := hid hr; clear hr
 go_enter Tryz.func80, Tryz.ntmps80
 go_wp2_with fail
 go_loopw [8] (fun i wr => ∃ k : Nat, k ≤ n ∧ i = .int .i64 k ∧ (cs.take k).findIdx? p = none ∧ Below w.heap.size w wr) (fun i _ => n - (intOf i).toNat)
 case atStart => exact ⟨0, Nat.zero_le _, rfl, rfl, Below.refl _ _⟩
 case round =>
   obtain ⟨k, hk, rfl, hf, hb⟩ := hrel
   by_cases hlt : k < n
   · obtain ⟨x, b, o, hx, rfl, hc⟩ := HR.out.at_ hlt
     have h0 := bget hb rfl (hc 0 _ rfl)
     have h1 := bget hb rfl (hc 1 _ rfl)
     simp only [Nat.add_zero] at h0
     have hcall := H.out x (List.mem_of_getElem? hx) wr hb
     have HX := hid hx; have HF := hid hf
     clear hc hx hf
     cases hpx : p x
     all_goals
       rw [hpx] at hcall
       have HC := hid hcall; have HP := hid hpx
       clear hcall hpx
       go_wp2_with fail
       refine HC.out.mono ?_
       rintro e w1 ⟨rfl, hb1⟩
       go_wp2_with fail
     · go_roundw
       case rel => exact ⟨k + 1, by omega, by go_num, findIdx?_snoc p cs k HF.out x HX.out HP.out, hb.trans (hb1.mono hb.size)⟩
       case measure => simp [intOf]; omega
     · go_ret
       refine ⟨?_, hb.trans (hb1.mono hb.size)⟩
       rw [idx_some (findIdx?_take p cs k HF.out x HX.out HP.out)]; rfl
   · have hkn : k = n := by omega
     have HF := hid hf; clear hf
     go_wp2_with fail
     go_ret
     refine ⟨?_, hb⟩
     have e : cs.take k = cs := List.take_of_length_le (by rw [HR.out.len]; omega)
     rw [idx_none (xs := cs) (by rw [← e]; exact HF.out)]; rfl

theorem idxStr (a : Option Addr) (n c f : Nat) (cap : Array Value) (cs : List Bs) (p : Bs → Bool) (w : World) (hr : Row w 1 encStr a n c cs)
   (eg : ∀ args w, (callFunc f args).run Tryz.prog w = .ok (.enter f args) w) (hp : Asks Tryz.prog f cap valStr p cs w) :
   Calls Tryz.prog 81 #[.slice a n c, .func (.func f) #[] cap] w (Ret (.int .i64 (idx p cs)) w) := by
 have hn := hr.le
 have H := hid hp; clear hp
 have HR := hid hr; clear hr
 go_enter Tryz.func81, Tryz.ntmps81
 go_wp2_with fail
 go_loopw [8] (fun i wr => ∃ k : Nat, k ≤ n ∧ i = .int .i64 k ∧ (cs.take k).findIdx? p = none ∧ Below w.heap.size w wr) (fun i _ => n - (intOf i).toNat)
 case atStart => exact ⟨0, Nat.zero_le _, rfl, rfl, Below.refl _ _⟩
 case round =>
   obtain ⟨k, hk, rfl, hf, hb⟩ := hrel
   by_cases hlt : k < n
   · obtain ⟨x, b, o, hx, rfl, hc⟩ := HR.out.at_ hlt
     have h0 := bget hb rfl (hc 0 _ rfl)
     simp only [Nat.mul_one, Nat.add_zero] at h0
     have hcall := H.out x (List.mem_of_getElem? hx) wr hb
     have HX := hid hx; have HF := hid hf
     clear hc hx hf
     cases hpx : p x
     all_goals
       rw [hpx] at hcall
       have HC := hid hcall; have HP := hid hpx
       clear hcall hpx
       go_wp2_with fail
       refine HC.out.mono ?_
       rintro e w1 ⟨rfl, hb1⟩
       go_wp2_with fail
     · go_roundw
       case rel => exact ⟨k + 1, by omega, by go_num, findIdx?_snoc p cs k HF.out x HX.out HP.out, hb.trans (hb1.mono hb.size)⟩
       case measure => simp [intOf]; omega
     · go_ret
       refine ⟨?_, hb.trans (hb1.mono hb.size)⟩
       rw [idx_some (findIdx?_take p cs k HF.out x HX.out HP.out)]; rfl
   · have hkn : k = n := by omega
     have HF := hid hf; clear hf
     go_wp2_with fail
     go_ret
     refine ⟨?_, hb⟩
     have e : cs.take k = cs := List.take_of_length_le (by rw [HR.out.len]; omega)
     rw [idx_none (xs := cs) (by rw [← e]; exact HF.out)]; rfl

theorem idxInt (a : Option Addr) (n c f : Nat) (cap : Array Value) (cs : List Int) (p : Int → Bool) (w : World) (hr : Row w 1 encInt a n c cs)
   (eg : ∀ args w, (callFunc f args).run Tryz.prog w = .ok (.enter f args) w) (hp : Asks Tryz.prog f cap valInt p cs w) :
   Calls Tryz.prog 150 #[.slice a n c, .func (.func f) #[] cap] w (Ret (.int .i64 (idx p cs)) w) := by
 have hn := hr.le
 have H := hid hp; clear hp
 have HR := hid hr; clear hr
 go_enter Tryz.func150, Tryz.ntmps150
 go_wp2_with fail
 go_loopw [8] (fun i wr => ∃ k : Nat, k ≤ n ∧ i = .int .i64 k ∧ (cs.take k).findIdx? p = none ∧ Below w.heap.size w wr) (fun i _ => n - (intOf i).toNat)
 case atStart => exact ⟨0, Nat.zero_le _, rfl, rfl, Below.refl _ _⟩
 case round =>
   obtain ⟨k, hk, rfl, hf, hb⟩ := hrel
   by_cases hlt : k < n
   · obtain ⟨x, b, o, hx, rfl, hc⟩ := HR.out.at_ hlt
     have h0 := bget hb rfl (hc 0 _ rfl)
     simp only [Nat.mul_one, Nat.add_zero] at h0
     have hcall := H.out x (List.mem_of_getElem? hx) wr hb
     have HX := hid hx; have HF := hid hf
     clear hc hx hf
     cases hpx : p x
     all_goals
       rw [hpx] at hcall
       have HC := hid hcall; have HP := hid hpx
       clear hcall hpx
       go_wp2_with fail
       refine HC.out.mono ?_
       rintro e w1 ⟨rfl, hb1⟩
       go_wp2_with fail
     · go_roundw
       case rel => exact ⟨k + 1, by omega, by go_num, findIdx?_snoc p cs k HF.out x HX.out HP.out, hb.trans (hb1.mono hb.size)⟩
       case measure => simp [intOf]; omega
     · go_ret
       refine ⟨?_, hb.trans (hb1.mono hb.size)⟩
       rw [idx_some (findIdx?_take p cs k HF.out x HX.out HP.out)]; rfl
   · have hkn : k = n := by omega
     have HF := hid hf; clear hf
     go_wp2_with fail
     go_ret
     refine ⟨?_, hb⟩
     have e : cs.take k = cs := List.take_of_length_le (by rw [HR.out.len]; omega)
     rw [idx_none (xs := cs) (by rw [← e]; exact HF.out)]; rfl

theorem idxOr (a : Option Addr) (n c f : Nat) (cap : Array Value) (cs : List OrC) (p : OrC → Bool) (w : World) (hr : Row w 2 encOr a n c cs)
   (eg : ∀ args w, (callFunc f args).run Tryz.prog w = .ok (.enter f args) w) (hp : Asks Tryz.prog f cap valOr p cs w) :
   Calls Tryz.prog 154 #[.slice a n c, .func (.func f) #[] cap] w (Ret (.int .i64 (idx p cs)) w) := by
 have hn := hr.le
 have H := hid hp; clear hp
 have HR := hid hr; clear hr
 go_enter Tryz.func154, Tryz.ntmps154
 go_wp2_with fail
 go_loopw [8] (fun i wr => ∃ k : Nat, k ≤ n ∧ i = .int .i64 k ∧ (cs.take k).findIdx? p = none ∧ Below w.heap.size w wr) (fun i _ => n - (intOf i).toNat)
 case atStart => exact ⟨0, Nat.zero_le _, rfl, rfl, Below.refl _ _⟩
 case round =>
   obtain ⟨k, hk, rfl, hf, hb⟩ := hrel
   by_cases hlt : k < n
   · obtain ⟨x, b, o, hx, rfl, hc⟩ := HR.out.at_ hlt
     have h0 := bget hb rfl (hc 0 _ rfl)
     have h1 := bget hb rfl (hc 1 _ rfl)
     simp only [Nat.add_zero] at h0
     have hcall := H.out x (List.mem_of_getElem? hx) wr hb
     have HX := hid hx; have HF := hid hf
     clear hc hx hf
     cases hpx : p x
     all_goals
       rw [hpx] at hcall
       have HC := hid hcall; have HP := hid hpx
       clear hcall hpx
       go_wp2_with fail
       refine HC.out.mono ?_
       rintro e w1 ⟨rfl, hb1⟩
       go_wp2_with fail
     · go_roundw
       case rel => exact ⟨k + 1, by omega, by go_num, findIdx?_snoc p cs k HF.out x HX.out HP.out, hb.trans (hb1.mono hb.size)⟩
       case measure => simp [intOf]; omega
     · go_ret
       refine ⟨?_, hb.trans (hb1.mono hb.size)⟩
       rw [idx_some (findIdx?_take p cs k HF.out x HX.out HP.out)]; rfl
   · have hkn : k = n := by omega
     have HF := hid hf; clear hf
     go_wp2_with fail
     go_ret
     refine ⟨?_, hb⟩
     have e : cs.take k = cs := List.take_of_length_le (by rw [HR.out.len]; omega)
     rw [idx_none (xs := cs) (by rw [← e]; exact HF.out)]; rfl

theorem idxMa (a : Option Addr) (n c f : Nat) (cap : Array Value) (cs : List MaC) (p : MaC → Bool) (w : World) (hr : Row w 4 encMa a n c cs)
   (eg : ∀ args w, (callFunc f args).run Tryz.prog w = .ok (.enter f args) w) (hp : Asks Tryz.prog f cap valMa p cs w) :
   Calls Tryz.prog 155 #[.slice a n c, .func (.func f) #[] cap] w (Ret (.int .i64 (idx p cs)) w) := by
 have hn := hr.le
 have H := hid hp; clear hp
 have HR := hid hr; clear hr
 go_enter Tryz.func155, Tryz.ntmps155
 go_wp2_with fail
 go_loopw [8] (fun i wr => ∃ k : Nat, k ≤ n ∧ i = .int .i64 k ∧ (cs.take k).findIdx? p = none ∧ Below w.heap.size w wr) (fun i _ => n - (intOf i).toNat)
 case atStart => exact ⟨0, Nat.zero_le _, rfl, rfl, Below.refl _ _⟩
 case round =>
   obtain ⟨k, hk, rfl, hf, hb⟩ := hrel
   by_cases hlt : k < n
   · obtain ⟨x, b, o, hx, rfl, hc⟩ := HR.out.at_ hlt
     have h0 := bget hb rfl (hc 0 _ rfl)
     have h1 := bget hb rfl (hc 1 _ rfl)
     have h2 := bget hb rfl (hc 2 _ rfl)
     have h3 := bget hb rfl (hc 3 _ rfl)
     simp only [Nat.add_zero] at h0
     have hcall := H.out x (List.mem_of_getElem? hx) wr hb
     have HX := hid hx; have HF := hid hf
     clear hc hx hf
     cases hpx : p x
     all_goals
       rw [hpx] at hcall
       have HC := hid hcall; have HP := hid hpx
       clear hcall hpx
       go_wp2_with fail
       refine HC.out.mono ?_
       rintro e w1 ⟨rfl, hb1⟩
       go_wp2_with fail
     · go_roundw
       case rel => exact ⟨k + 1, by omega, by go_num, findIdx?_snoc p cs k HF.out x HX.out HP.out, hb.trans (hb1.mono hb.size)⟩
       case measure => simp [intOf]; omega
     · go_ret
       refine ⟨?_, hb.trans (hb1.mono hb.size)⟩
       rw [idx_some (findIdx?_take p cs k HF.out x HX.out HP.out)]; rfl
   · have hkn : k = n := by omega
     have HF := hid hf; clear hf
     go_wp2_with fail
     go_ret
     refine ⟨?_, hb⟩
     have e : cs.take k = cs := List.take_of_length_le (by rw [HR.out.len]; omega)
     rw [idx_none (xs := cs) (by rw [← e]; exact HF.out)]; rfl

theorem idxWa (a : Option Addr) (n c f : Nat) (cap : Array Value) (cs : List Wa) (p : Wa → Bool) (w : World) (hr : Row w 2 encWa a n c cs)
   (eg : ∀ args w, (callFunc f args).run Tryz.prog w = .ok (.enter f args) w) (hp : Asks Tryz.prog f cap valWa p cs w) :
   Calls Tryz.prog 156 #[.slice a n c, .func (.func f) #[] cap] w (Ret (.int .i64 (idx p cs)) w) := by
 have hn := hr.le
 have H := hid hp; clear hp
 have HR := hid hr; clear hr
 go_enter Tryz.func156, Tryz.ntmps156
 go_wp2_with fail
 go_loopw [8] (fun i wr => ∃ k : Nat, k ≤ n ∧ i = .int .i64 k ∧ (cs.take k).findIdx? p = none ∧ Below w.heap.size w wr) (fun i _ => n - (intOf i).toNat)
 case atStart => exact ⟨0, Nat.zero_le _, rfl, rfl, Below.refl _ _⟩
 case round =>
   obtain ⟨k, hk, rfl, hf, hb⟩ := hrel
   by_cases hlt : k < n
   · obtain ⟨x, b, o, hx, rfl, hc⟩ := HR.out.at_ hlt
     have h0 := bget hb rfl (hc 0 _ rfl)
     have h1 := bget hb rfl (hc 1 _ rfl)
     simp only [Nat.add_zero] at h0
     have hcall := H.out x (List.mem_of_getElem? hx) wr hb
     have HX := hid hx; have HF := hid hf
     clear hc hx hf
     cases hpx : p x
     all_goals
       rw [hpx] at hcall
       have HC := hid hcall; have HP := hid hpx
       clear hcall hpx
       go_wp2_with fail
       refine HC.out.mono ?_
       rintro e w1 ⟨rfl, hb1⟩
       go_wp2_with fail
     · go_roundw
       case rel => exact ⟨k + 1, by omega, by go_num, findIdx?_snoc p cs k HF.out x HX.out HP.out, hb.trans (hb1.mono hb.size)⟩
       case measure => simp [intOf]; omega
     · go_ret
       refine ⟨?_, hb.trans (hb1.mono hb.size)⟩
       rw [idx_some (findIdx?_take p cs k HF.out x HX.out HP.out)]; rfl
   · have hkn : k = n := by omega
     have HF := hid hf; clear hf
     go_wp2_with fail
     go_ret
     refine ⟨?_, hb⟩
     have e : cs.take k = cs := List.take_of_length_le (by rw [HR.out.len]; omega)
     rw [idx_none (xs := cs) (by rw [← e]; exact HF.out)]; rfl

theorem idxSn (a : Option Addr) (n c f : Nat) (cap : Array Value) (cs : List Sn) (p : Sn → Bool) (w : World) (hr : Row w 3 encSn a n c cs)
   (eg : ∀ args w, (callFunc f args).run Tryz.prog w = .ok (.enter f args) w) (hp : Asks Tryz.prog f cap valSn p cs w) :
   Calls Tryz.prog 161 #[.slice a n c, .func (.func f) #[] cap] w (Ret (.int .i64 (idx p cs)) w) := by
 have hn := hr.le
 have H := hid hp; clear hp
 have HR := hid hr; clear hr
 go_enter Tryz.func161, Tryz.ntmps161
 go_wp2_with fail
 go_loopw [8] (fun i wr => ∃ k : Nat, k ≤ n ∧ i = .int .i64 k ∧ (cs.take k).findIdx? p = none ∧ Below w.heap.size w wr) (fun i _ => n - (intOf i).toNat)
 case atStart => exact ⟨0, Nat.zero_le _, rfl, rfl, Below.refl _ _⟩
 case round =>
   obtain ⟨k, hk, rfl, hf, hb⟩ := hrel
   by_cases hlt : k < n
   · obtain ⟨x, b, o, hx, rfl, hc⟩ := HR.out.at_ hlt
     have h0 := bget hb rfl (hc 0 _ rfl)
     have h1 := bget hb rfl (hc 1 _ rfl)
     have h2 := bget hb rfl (hc 2 _ rfl)
     simp only [Nat.add_zero] at h0
     have hcall := H.out x (List.mem_of_getElem? hx) wr hb
     have HX := hid hx; have HF := hid hf
     clear hc hx hf
     cases hpx : p x
     all_goals
       rw [hpx] at hcall
       have HC := hid hcall; have HP := hid hpx
       clear hcall hpx
       go_wp2_with fail
       refine HC.out.mono ?_
       rintro e w1 ⟨rfl, hb1⟩
       go_wp2_with fail
     · go_roundw
       case rel => exact ⟨k + 1, by omega, by go_num, findIdx?_snoc p cs k HF.out x HX.out HP.out, hb.trans (hb1.mono hb.size)⟩
       case measure => simp [intOf]; omega
     · go_ret
       refine ⟨?_, hb.trans (hb1.mono hb.size)⟩
       rw [idx_some (findIdx?_take p cs k HF.out x HX.out HP.out)]; rfl
   · have hkn : k = n := by omega
     have HF := hid hf; clear hf
     go_wp2_with fail
     go_ret
     refine ⟨?_, hb⟩
     have e : cs.take k = cs := List.take_of_length_le (by rw [HR.out.len]; omega)
     rw [idx_none (xs := cs) (by rw [← e]; exact HF.out)]; rfl

theorem contEv (a : Option Addr) (n c f : Nat) (cap : Array Value) (cs : List EvC) (p : EvC → Bool) (w : World) (hr : Row w 9 encEv a n c cs)
   (eg : ∀ args w, (callFunc f args).run Tryz.prog w = .ok (.enter f args) w) (hp : Asks Tryz.prog f cap valEv p cs w) :
   Calls Tryz.prog 57 #[.slice a n c, .func (.func f) #[] cap] w (Ret (.bool (cs.any p)) w) := by
 have HC := idxEv a n c f cap cs p w hr eg hp
 have H := hid HC; clear HC hp hr
 go_enter Tryz.func57, Tryz.ntmps57
 go_wp2_with (go_at_call 94; refine H.out.mono ?_; rintro e w1 ⟨rfl, hb1⟩)
 go_ret
 exact ⟨by rw [← idx_any]; rfl, hb1⟩

theorem contTo (a : Option Addr) (n c f : Nat) (cap : Array Value) (cs : List To) (p : To → Bool) (w : World) (hr : Row w 2 encTo a n c cs)
   (eg : ∀ args w, (callFunc f args).run Tryz.prog w = .ok (.enter f args) w) (hp : Asks Tryz.prog f cap valTo p cs w) :
   Calls Tryz.prog 40 #[.slice a n c, .func (.func f) #[] cap] w (Ret (.bool (cs.any p)) w) := by
 have HC := idxTo a n c f cap cs p w hr eg hp
 have H := hid HC; clear HC hp hr
 go_enter Tryz.func40, Tryz.ntmps40
 go_wp2_with (go_at_call 80; refine H.out.mono ?_; rintro e w1 ⟨rfl, hb1⟩)
 go_ret
 exact ⟨by rw [← idx_any]; rfl, hb1⟩

theorem contStr (a : Option Addr) (n c f : Nat) (cap : Array Value) (cs : List Bs) (p : Bs → Bool) (w : World) (hr : Row w 1 encStr a n c cs)
   (eg : ∀ args w, (callFunc f args).run Tryz.prog w = .ok (.enter f args) w) (hp : Asks Tryz.prog f cap valStr p cs w) :
   Calls Tryz.prog 43 #[.slice a n c, .func (.func f) #[] cap] w (Ret (.bool (cs.any p)) w) := by
 have HC := idxStr a n c f cap cs p w hr eg hp
 have H := hid HC; clear HC hp hr
 go_enter Tryz.func43, Tryz.ntmps43
 go_wp2_with (go_at_call 81; refine H.out.mono ?_; rintro e w1 ⟨rfl, hb1⟩)
 go_ret
 exact ⟨by rw [← idx_any]; rfl, hb1⟩

theorem contInt (a : Option Addr) (n c f : Nat) (cap : Array Value) (cs : List Int) (p : Int → Bool) (w : World) (hr : Row w 1 encInt a n c cs)
   (eg : ∀ args w, (callFunc f args).run Tryz.prog w = .ok (.enter f args) w) (hp : Asks Tryz.prog f cap valInt p cs w) :
   Calls Tryz.prog 124 #[.slice a n c, .func (.func f) #[] cap] w (Ret (.bool (cs.any p)) w) := by
 have HC := idxInt a n c f cap cs p w hr eg hp
 have H := hid HC; clear HC hp hr
 go_enter Tryz.func124, Tryz.ntmps124
 go_wp2_with (go_at_call 150; refine H.out.mono ?_; rintro e w1 ⟨rfl, hb1⟩)
 go_ret
 exact ⟨by rw [← idx_any]; rfl, hb1⟩

theorem contOr (a : Option Addr) (n c f : Nat) (cap : Array Value) (cs : List OrC) (p : OrC → Bool) (w : World) (hr : Row w 2 encOr a n c cs)
   (eg : ∀ args w, (callFunc f args).run Tryz.prog w = .ok (.enter f args) w) (hp : Asks Tryz.prog f cap valOr p cs w) :
   Calls Tryz.prog 137 #[.slice a n c, .func (.func f) #[] cap] w (Ret (.bool (cs.any p)) w) := by
 have HC := idxOr a n c f cap cs p w hr eg hp
 have H := hid HC; clear HC hp hr
 go_enter Tryz.func137, Tryz.ntmps137
 go_wp2_with (go_at_call 154; refine H.out.mono ?_; rintro e w1 ⟨rfl, hb1⟩)
 go_ret
 exact ⟨by rw [← idx_any]; rfl, hb1⟩

theorem contMa (a : Option Addr) (n c f : Nat) (cap : Array Value) (cs : List MaC) (p : MaC → Bool) (w : World) (hr : Row w 4 encMa a n c cs)
   (eg : ∀ args w, (callFunc f args).run Tryz.prog w = .ok (.enter f args) w) (hp : Asks Tryz.prog f cap valMa p cs w) :
   Calls Tryz.prog 139 #[.slice a n c, .func (.func f) #[] cap] w (Ret (.bool (cs.any p)) w) := by
 have HC := idxMa a n c f cap cs p w hr eg hp
 have H := hid HC; clear HC hp hr
 go_enter Tryz.func139, Tryz.ntmps139
 go_wp2_with (go_at_call 155; refine H.out.mono ?_; rintro e w1 ⟨rfl, hb1⟩)
 go_ret
 exact ⟨by rw [← idx_any]; rfl, hb1⟩

theorem contWa (a : Option Addr) (n c f : Nat) (cap : Array Value) (cs : List Wa) (p : Wa → Bool) (w : World) (hr : Row w 2 encWa a n c cs)
   (eg : ∀ args w, (callFunc f args).run Tryz.prog w = .ok (.enter f args) w) (hp : Asks Tryz.prog f cap valWa p cs w) :
   Calls Tryz.prog 141 #[.slice a n c, .func (.func f) #[] cap] w (Ret (.bool (cs.any p)) w) := by
 have HC := idxWa a n c f cap cs p w hr eg hp
 have H := hid HC; clear HC hp hr
 go_enter Tryz.func141, Tryz.ntmps141
 go_wp2_with (go_at_call 156; refine H.out.mono ?_; rintro e w1 ⟨rfl, hb1⟩)
 go_ret
 exact ⟨by rw [← idx_any]; rfl, hb1⟩

theorem contSn (a : Option Addr) (n c f : Nat) (cap : Array Value) (cs : List Sn) (p : Sn → Bool) (w : World) (hr : Row w 3 encSn a n c cs)
   (eg : ∀ args w, (callFunc f args).run Tryz.prog w = .ok (.enter f args) w) (hp : Asks Tryz.prog f cap valSn p cs w) :
   Calls Tryz.prog 151 #[.slice a n c, .func (.func f) #[] cap] w (Ret (.bool (cs.any p)) w) := by
 have HC := idxSn a n c f cap cs p w hr eg hp
 have H := hid HC; clear HC hp hr
 go_enter Tryz.func151, Tryz.ntmps151
 go_wp2_with (go_at_call 161; refine H.out.mono ?_; rintro e w1 ⟨rfl, hb1⟩)
 go_ret
 exact ⟨by rw [← idx_any]; rfl, hb1⟩

end Yd


namespace Yd
open Go Go.RowKit Go.Proofs

theorem notInt (x : Int) (f : Nat) (cap : Array Value) (p : Int → Bool) (bp : Nat) (W : World) (hc : W.cell? ⟨bp, 0, none⟩ = some (.func (.func f) #[] cap))
   (eg : ∀ args w, (callFunc f args).run Tryz.prog w = .ok (.enter f args) w) (hcall : ∀ W', Below W.heap.size W W' → Calls Tryz.prog f (#[valInt x] ++ cap) W' (Ret (.bool (p x)) W')) :
   Calls Tryz.prog 125 #[valInt x, .pointer (some ⟨bp, 0, none⟩)] W (Ret (.bool (!p x)) W) := by
 have H := hid hcall; clear hcall
 have hbp : bp < W.heap.size := cell_lt hc
 go_enter Tryz.func125, Tryz.ntmps125
 go_wp2_with fail
 refine (H.out _ (Below.refl _ _)).mono ?_
 rintro e w1 ⟨rfl, hb1⟩
 go_wp2_with fail
 go_ret
 exact ⟨rfl, hb1⟩

theorem allInt (a : Option Addr) (n c f : Nat) (cap : Array Value) (cs : List Int) (p : Int → Bool) (w : World) (hr : Row w 1 encInt a n c cs)
   (eg : ∀ args w, (callFunc f args).run Tryz.prog w = .ok (.enter f args) w) (hp : Asks Tryz.prog f cap valInt p cs w) :
   Calls Tryz.prog 96 #[.slice a n c, .func (.func f) #[] cap] w (Ret (.bool (cs.all p)) w) := by
 have HB : Below w.heap.size w (w.alloc (.cells #[.func (.func f) #[] cap] 166)) := (Below.refl _ _).alloc (Nat.le_refl _) _
 have HC := contInt a n c 125 #[.pointer (some ⟨w.heap.size, 0, none⟩)] cs (fun x => !p x) _ (hr.below HB rfl) Tryz.call125
   (fun x hx W hW => notInt x f cap p w.heap.size W (by rw [hW.cell (p := ⟨w.heap.size, 0, none⟩) (by simp)]; simp) eg
     (fun W' hW' => hp x hx W' (HB.trans ((hW.mono (by simp)).trans (hW'.mono (by have := hW.size; simp at this; omega))))))
 have H := hid HC; have HBH := hid HB
 clear HC HB hp hr
 go_enter Tryz.func96, Tryz.ntmps96
 go_wp2_with (go_at_call 124; refine H.out.mono ?_; rintro e w1 ⟨rfl, hb1⟩)
 go_ret
 refine ⟨?_, HBH.out.trans (hb1.mono (by simp))⟩
 have e : cs.all p = !cs.any (fun x => !p x) := by simp [List.any_eq_not_all_not]
 rw [e]; rfl

theorem notEv (x : EvC) (f : Nat) (cap : Array Value) (p : EvC → Bool) (bp : Nat) (W : World) (hc : W.cell? ⟨bp, 0, none⟩ = some (.func (.func f) #[] cap))
   (eg : ∀ args w, (callFunc f args).run Tryz.prog w = .ok (.enter f args) w) (hcall : ∀ W', Below W.heap.size W W' → Calls Tryz.prog f (#[valEv x] ++ cap) W' (Ret (.bool (p x)) W')) :
   Calls Tryz.prog 126 #[valEv x, .pointer (some ⟨bp, 0, none⟩)] W (Ret (.bool (!p x)) W) := by
 have H := hid hcall; clear hcall
 have hbp : bp < W.heap.size := cell_lt hc
 go_enter Tryz.func126, Tryz.ntmps126
 go_wp2_with fail
 refine (H.out _ ((Below.refl _ _).alloc (Nat.le_refl _) _)).mono ?_
 rintro e w1 ⟨rfl, hb1⟩
 go_wp2_with fail
 go_ret
 exact ⟨rfl, ((Below.refl _ _).alloc (Nat.le_refl _) _).trans (hb1.mono (by simp))⟩

theorem allEv (a : Option Addr) (n c f : Nat) (cap : Array Value) (cs : List EvC) (p : EvC → Bool) (w : World) (hr : Row w 9 encEv a n c cs)
   (eg : ∀ args w, (callFunc f args).run Tryz.prog w = .ok (.enter f args) w) (hp : Asks Tryz.prog f cap valEv p cs w) :
   Calls Tryz.prog 99 #[.slice a n c, .func (.func f) #[] cap] w (Ret (.bool (cs.all p)) w) := by
 have HB : Below w.heap.size w (w.alloc (.cells #[.func (.func f) #[] cap] 121)) := (Below.refl _ _).alloc (Nat.le_refl _) _
 have HC := contEv a n c 126 #[.pointer (some ⟨w.heap.size, 0, none⟩)] cs (fun x => !p x) _ (hr.below HB rfl) Tryz.call126
   (fun x hx W hW => notEv x f cap p w.heap.size W (by rw [hW.cell (p := ⟨w.heap.size, 0, none⟩) (by simp)]; simp) eg
     (fun W' hW' => hp x hx W' (HB.trans ((hW.mono (by simp)).trans (hW'.mono (by have := hW.size; simp at this; omega))))))
 have H := hid HC; have HBH := hid HB
 clear HC HB hp hr
 go_enter Tryz.func99, Tryz.ntmps99
 go_wp2_with (go_at_call 57; refine H.out.mono ?_; rintro e w1 ⟨rfl, hb1⟩)
 go_ret
 refine ⟨?_, HBH.out.trans (hb1.mono (by simp))⟩
 have e : cs.all p = !cs.any (fun x => !p x) := by simp [List.any_eq_not_all_not]
 rw [e]; rfl

theorem notOr (x : OrC) (f : Nat) (cap : Array Value) (p : OrC → Bool) (bp : Nat) (W : World) (hc : W.cell? ⟨bp, 0, none⟩ = some (.func (.func f) #[] cap))
   (eg : ∀ args w, (callFunc f args).run Tryz.prog w = .ok (.enter f args) w) (hcall : ∀ W', Below W.heap.size W W' → Calls Tryz.prog f (#[valOr x] ++ cap) W' (Ret (.bool (p x)) W')) :
   Calls Tryz.prog 138 #[valOr x, .pointer (some ⟨bp, 0, none⟩)] W (Ret (.bool (!p x)) W) := by
 have H := hid hcall; clear hcall
 have hbp : bp < W.heap.size := cell_lt hc
 go_enter Tryz.func138, Tryz.ntmps138
 go_wp2_with fail
 refine (H.out _ ((Below.refl _ _).alloc (Nat.le_refl _) _)).mono ?_
 rintro e w1 ⟨rfl, hb1⟩
 go_wp2_with fail
 go_ret
 exact ⟨rfl, ((Below.refl _ _).alloc (Nat.le_refl _) _).trans (hb1.mono (by simp))⟩

theorem allOr (a : Option Addr) (n c f : Nat) (cap : Array Value) (cs : List OrC) (p : OrC → Bool) (w : World) (hr : Row w 2 encOr a n c cs)
   (eg : ∀ args w, (callFunc f args).run Tryz.prog w = .ok (.enter f args) w) (hp : Asks Tryz.prog f cap valOr p cs w) :
   Calls Tryz.prog 102 #[.slice a n c, .func (.func f) #[] cap] w (Ret (.bool (cs.all p)) w) := by
 have HB : Below w.heap.size w (w.alloc (.cells #[.func (.func f) #[] cap] 169)) := (Below.refl _ _).alloc (Nat.le_refl _) _
 have HC := contOr a n c 138 #[.pointer (some ⟨w.heap.size, 0, none⟩)] cs (fun x => !p x) _ (hr.below HB rfl) Tryz.call138
   (fun x hx W hW => notOr x f cap p w.heap.size W (by rw [hW.cell (p := ⟨w.heap.size, 0, none⟩) (by simp)]; simp) eg
     (fun W' hW' => hp x hx W' (HB.trans ((hW.mono (by simp)).trans (hW'.mono (by have := hW.size; simp at this; omega))))))
 have H := hid HC; have HBH := hid HB
 clear HC HB hp hr
 go_enter Tryz.func102, Tryz.ntmps102
 go_wp2_with (go_at_call 137; refine H.out.mono ?_; rintro e w1 ⟨rfl, hb1⟩)
 go_ret
 refine ⟨?_, HBH.out.trans (hb1.mono (by simp))⟩
 have e : cs.all p = !cs.any (fun x => !p x) := by simp [List.any_eq_not_all_not]
 rw [e]; rfl

theorem notMa (x : MaC) (f : Nat) (cap : Array Value) (p : MaC → Bool) (bp : Nat) (W : World) (hc : W.cell? ⟨bp, 0, none⟩ = some (.func (.func f) #[] cap))
   (eg : ∀ args w, (callFunc f args).run Tryz.prog w = .ok (.enter f args) w) (hcall : ∀ W', Below W.heap.size W W' → Calls Tryz.prog f (#[valMa x] ++ cap) W' (Ret (.bool (p x)) W')) :
   Calls Tryz.prog 140 #[valMa x, .pointer (some ⟨bp, 0, none⟩)] W (Ret (.bool (!p x)) W) := by
 have H := hid hcall; clear hcall
 have hbp : bp < W.heap.size := cell_lt hc
 go_enter Tryz.func140, Tryz.ntmps140
 go_wp2_with fail
 refine (H.out _ ((Below.refl _ _).alloc (Nat.le_refl _) _)).mono ?_
 rintro e w1 ⟨rfl, hb1⟩
 go_wp2_with fail
 go_ret
 exact ⟨rfl, ((Below.refl _ _).alloc (Nat.le_refl _) _).trans (hb1.mono (by simp))⟩

theorem allMa (a : Option Addr) (n c f : Nat) (cap : Array Value) (cs : List MaC) (p : MaC → Bool) (w : World) (hr : Row w 4 encMa a n c cs)
   (eg : ∀ args w, (callFunc f args).run Tryz.prog w = .ok (.enter f args) w) (hp : Asks Tryz.prog f cap valMa p cs w) :
   Calls Tryz.prog 104 #[.slice a n c, .func (.func f) #[] cap] w (Ret (.bool (cs.all p)) w) := by
 have HB : Below w.heap.size w (w.alloc (.cells #[.func (.func f) #[] cap] 171)) := (Below.refl _ _).alloc (Nat.le_refl _) _
 have HC := contMa a n c 140 #[.pointer (some ⟨w.heap.size, 0, none⟩)] cs (fun x => !p x) _ (hr.below HB rfl) Tryz.call140
   (fun x hx W hW => notMa x f cap p w.heap.size W (by rw [hW.cell (p := ⟨w.heap.size, 0, none⟩) (by simp)]; simp) eg
     (fun W' hW' => hp x hx W' (HB.trans ((hW.mono (by simp)).trans (hW'.mono (by have := hW.size; simp at this; omega))))))
 have H := hid HC; have HBH := hid HB
 clear HC HB hp hr
 go_enter Tryz.func104, Tryz.ntmps104
 go_wp2_with (go_at_call 139; refine H.out.mono ?_; rintro e w1 ⟨rfl, hb1⟩)
 go_ret
 refine ⟨?_, HBH.out.trans (hb1.mono (by simp))⟩
 have e : cs.all p = !cs.any (fun x => !p x) := by simp [List.any_eq_not_all_not]
 rw [e]; rfl

theorem notWa (x : Wa) (f : Nat) (cap : Array Value) (p : Wa → Bool) (bp : Nat) (W : World) (hc : W.cell? ⟨bp, 0, none⟩ = some (.func (.func f) #[] cap))
   (eg : ∀ args w, (callFunc f args).run Tryz.prog w = .ok (.enter f args) w) (hcall : ∀ W', Below W.heap.size W W' → Calls Tryz.prog f (#[valWa x] ++ cap) W' (Ret (.bool (p x)) W')) :
   Calls Tryz.prog 142 #[valWa x, .pointer (some ⟨bp, 0, none⟩)] W (Ret (.bool (!p x)) W) := by
 have H := hid hcall; clear hcall
 have hbp : bp < W.heap.size := cell_lt hc
 go_enter Tryz.func142, Tryz.ntmps142
 go_wp2_with fail
 refine (H.out _ ((Below.refl _ _).alloc (Nat.le_refl _) _)).mono ?_
 rintro e w1 ⟨rfl, hb1⟩
 go_wp2_with fail
 go_ret
 exact ⟨rfl, ((Below.refl _ _).alloc (Nat.le_refl _) _).trans (hb1.mono (by simp))⟩

theorem allWa (a : Option Addr) (n c f : Nat) (cap : Array Value) (cs : List Wa) (p : Wa → Bool) (w : World) (hr : Row w 2 encWa a n c cs)
   (eg : ∀ args w, (callFunc f args).run Tryz.prog w = .ok (.enter f args) w) (hp : Asks Tryz.prog f cap valWa p cs w) :
   Calls Tryz.prog 106 #[.slice a n c, .func (.func f) #[] cap] w (Ret (.bool (cs.all p)) w) := by
 have HB : Below w.heap.size w (w.alloc (.cells #[.func (.func f) #[] cap] 173)) := (Below.refl _ _).alloc (Nat.le_refl _) _
 have HC := contWa a n c 142 #[.pointer (some ⟨w.heap.size, 0, none⟩)] cs (fun x => !p x) _ (hr.below HB rfl) Tryz.call142
   (fun x hx W hW => notWa x f cap p w.heap.size W (by rw [hW.cell (p := ⟨w.heap.size, 0, none⟩) (by simp)]; simp) eg
     (fun W' hW' => hp x hx W' (HB.trans ((hW.mono (by simp)).trans (hW'.mono (by have := hW.size; simp at this; omega))))))
 have H := hid HC; have HBH := hid HB
 clear HC HB hp hr
 go_enter Tryz.func106, Tryz.ntmps106
 go_wp2_with (go_at_call 141; refine H.out.mono ?_; rintro e w1 ⟨rfl, hb1⟩)
 go_ret
 refine ⟨?_, HBH.out.trans (hb1.mono (by simp))⟩
 have e : cs.all p = !cs.any (fun x => !p x) := by simp [List.any_eq_not_all_not]
 rw [e]; rfl

theorem notSn (x : Sn) (f : Nat) (cap : Array Value) (p : Sn → Bool) (bp : Nat) (W : World) (hc : W.cell? ⟨bp, 0, none⟩ = some (.func (.func f) #[] cap))
   (eg : ∀ args w, (callFunc f args).run Tryz.prog w = .ok (.enter f args) w) (hcall : ∀ W', Below W.heap.size W W' → Calls Tryz.prog f (#[valSn x] ++ cap) W' (Ret (.bool (p x)) W')) :
   Calls Tryz.prog 152 #[valSn x, .pointer (some ⟨bp, 0, none⟩)] W (Ret (.bool (!p x)) W) := by
 have H := hid hcall; clear hcall
 have hbp : bp < W.heap.size := cell_lt hc
 go_enter Tryz.func152, Tryz.ntmps152
 go_wp2_with fail
 refine (H.out _ ((Below.refl _ _).alloc (Nat.le_refl _) _)).mono ?_
 rintro e w1 ⟨rfl, hb1⟩
 go_wp2_with fail
 go_ret
 exact ⟨rfl, ((Below.refl _ _).alloc (Nat.le_refl _) _).trans (hb1.mono (by simp))⟩

theorem allSn (a : Option Addr) (n c f : Nat) (cap : Array Value) (cs : List Sn) (p : Sn → Bool) (w : World) (hr : Row w 3 encSn a n c cs)
   (eg : ∀ args w, (callFunc f args).run Tryz.prog w = .ok (.enter f args) w) (hp : Asks Tryz.prog f cap valSn p cs w) :
   Calls Tryz.prog 133 #[.slice a n c, .func (.func f) #[] cap] w (Ret (.bool (cs.all p)) w) := by
 have HB : Below w.heap.size w (w.alloc (.cells #[.func (.func f) #[] cap] 190)) := (Below.refl _ _).alloc (Nat.le_refl _) _
 have HC := contSn a n c 152 #[.pointer (some ⟨w.heap.size, 0, none⟩)] cs (fun x => !p x) _ (hr.below HB rfl) Tryz.call152
   (fun x hx W hW => notSn x f cap p w.heap.size W (by rw [hW.cell (p := ⟨w.heap.size, 0, none⟩) (by simp)]; simp) eg
     (fun W' hW' => hp x hx W' (HB.trans ((hW.mono (by simp)).trans (hW'.mono (by have := hW.size; simp at this; omega))))))
 have H := hid HC; have HBH := hid HB
 clear HC HB hp hr
 go_enter Tryz.func133, Tryz.ntmps133
 go_wp2_with (go_at_call 151; refine H.out.mono ?_; rintro e w1 ⟨rfl, hb1⟩)
 go_ret
 refine ⟨?_, HBH.out.trans (hb1.mono (by simp))⟩
 have e : cs.all p = !cs.any (fun x => !p x) := by simp [List.any_eq_not_all_not]
 rw [e]; rfl

end Yd
