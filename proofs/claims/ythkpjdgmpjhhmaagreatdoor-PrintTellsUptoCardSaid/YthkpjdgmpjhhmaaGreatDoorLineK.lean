import Derived.Test.YthkpjdgmpjhhmaaGreatDoorLineC
import Derived.Test.YthkpjdgmpjhhmaaGreatDoorTellB
import Derived.Test.YthkpjdgmpjhhmaaGreatDoorProg
set_option maxRecDepth 200000
set_option maxHeartbeats 8000000
namespace Yd
open Go Go.RowKit Go.Proofs

def mostR (r : Int) : Int := if r = 115 then 40 else if r = 116 ∨ r = 109 then 300 else 0
structure LineW (w : World) (na : Option Addr) (nn nc : Nat) (va : Option Addr) (vn vc : Nat) (names : List Bs) (vers : List To) : Prop where
 rn : Row w 1 encStr na nn nc names
 rv : Row w 2 encTo va vn vc vers
 wn : ∀ s ∈ names, wordB ⟨s.toArray⟩ = true
 wv : ∀ t ∈ vers, toOk t
 g : GlobL w
 T : Lib.Utf8Tabs 5 6 w
theorem LineW.below {w w' : World} {na : Option Addr} {nn nc : Nat} {va : Option Addr} {vn vc : Nat} {names : List Bs} {vers : List To} (h : LineW w na nn nc va vn vc names vers) (hb : Below w.heap.size w w') : LineW w' na nn nc va vn vc names vers :=
 ⟨h.rn.below hb rfl, h.rv.below hb rfl, h.wn, h.wv, h.g.below hb, Utf8Tabs_below h.T hb⟩
theorem call_c1 : ∀ args w, (callFunc 41 args).run Tryz.prog w = .ok (.enter 41 args) w := enters_of Tryz.func41 (by kernel_rfl) rfl
theorem call_c2 : ∀ args w, (callFunc 44 args).run Tryz.prog w = .ok (.enter 44 args) w := enters_of Tryz.func44 (by kernel_rfl) rfl
theorem LineW.names {w : World} {na : Option Addr} {nn nc : Nat} {va : Option Addr} {vn vc : Nat} {names : List Bs} {vers : List To} (h : LineW w na nn nc va vn vc names vers) :
   Calls Tryz.prog 43 #[.slice na nn nc, .func (.func 44) #[] #[]] w (Ret (.bool false) w) := by
 have := contStr na nn nc 44 #[] names (fun s => !wordB ⟨s.toArray⟩) w h.rn call_c2 (fun x _ W hb => by simpa using check2_any x W (Utf8Tabs_below h.T hb))
 rwa [List.any_eq_false.2 (fun s hs => by simp [h.wn s hs])] at this
theorem LineW.vers {w : World} {na : Option Addr} {nn nc : Nat} {va : Option Addr} {vn vc : Nat} {names : List Bs} {vers : List To} (h : LineW w na nn nc va vn vc names vers) :
   Calls Tryz.prog 40 #[.slice va vn vc, .func (.func 41) #[] #[]] w (Ret (.bool false) w) := by
 have := contTo va vn vc 41 #[] vers (fun _ => false) w h.rv call_c1 (fun x hx W hb => by simpa using check1_ok x W (Utf8Tabs_below h.T hb) (h.wv x hx))
 rwa [List.any_eq_false.2 (fun s hs => by simp)] at this
theorem most_any (r : Int) (w : World) : Calls Tryz.prog 39 #[.int .i32 r] w (Ret (.int .i64 (mostR r)) w) := by
 by_cases h1 : r = 115
 · subst h1
   go_enter Tryz.func39, Tryz.ntmps39
   go_wp2_with fail
   go_ret
   exact ⟨rfl, Below.refl _ _⟩
 · have e1 : (r == 115) = false := beq_eq_false_iff_ne.2 h1
   by_cases h2 : r = 116
   · subst h2
     go_enter Tryz.func39, Tryz.ntmps39
     go_wp2_with fail
     go_ret
     exact ⟨rfl, Below.refl _ _⟩
   · have e2 : (r == 116) = false := beq_eq_false_iff_ne.2 h2
     by_cases h3 : r = 109
     · subst h3
       go_enter Tryz.func39, Tryz.ntmps39
       go_wp2_with fail
       go_ret
       exact ⟨rfl, Below.refl _ _⟩
     · have e3 : (r == 109) = false := beq_eq_false_iff_ne.2 h3
       have hm : mostR r = 0 := by unfold mostR; rw [if_neg h1, if_neg (by omega)]
       rw [hm]
       go_enter Tryz.func39, Tryz.ntmps39
       go_wp2_with fail
       go_ret
       exact ⟨rfl, Below.refl _ _⟩
end Yd
