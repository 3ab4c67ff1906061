import Derived.Test.YtnhnhmeogckgpaaGreatDoorTShaped
set_option linter.all false
set_option maxRecDepth 200000
set_option maxHeartbeats 8000000
namespace Yd
open Go Go.RowKit Go.Proofs Tryz
open Lib renaming Utf8Tabs→a
open Tryz renaming prog→b
def aO:Nat→Bs
 |0=>[]
 |1=>[98,101,103,105,110]
 |2=>[119,114,105,116,101]
 |3=>[114,101,97,100]
 |4=>[115,99,97,110]
 |5=>[99,111,109,109,105,116]
 |6=>[97,98,111,114,116]
 |7=>[111,114,100,101,114]
 |8=>[109,97,116,99,104]
 |_=>[119,97,110,116]
def bA:Nat→Int
 |0=>0
 |1=>2
 |2=>2
 |3=>2
 |4=>2
 |5=>1
 |6=>1
 |7=>1
 |8=>2
 |_=>1
def bH:Nat→Int
 |0=>0
 |1=>108
 |2=>0
 |3=>118
 |4=>115
 |5=>0
 |6=>0
 |7=>116
 |8=>109
 |_=>103
def gB:Nat→Bs
 |0=>[114,121,119]
 |1=>[109,114]
 |2=>[109,119]
 |_=>[119,102,114]
def fJ:Nat→Bs
 |0=>[]
 |1=>[49]
 |2=>[50]
 |3=>[50,46,57,57]
 |_=>[51]
def jY (w:World):Prop:=zC w∧(∀k,k<10→w.cell? ⟨0,3*k,none⟩=some (.string ⟨(aO k).toArray⟩)∧w.cell? ⟨0,3*k+1,none⟩=some (.int .i64 (bA k))∧w.cell? ⟨0,3*k+2,none⟩=some (.int .i32 (bH k)))∧
 (∀i,i<4→w.cell? ⟨1,i,none⟩=some (.string ⟨(gB i).toArray⟩))∧(∀i,i<5→w.cell? ⟨3,i,none⟩=some (.string ⟨(fJ i).toArray⟩))
theorem jY.below {w w':World} (h:jY w) (hb:Below w.heap.size w w'):jY w':=
 ⟨h.1.below hb,fun k hk=>⟨aM hb rfl (h.2.1 k hk).1,aM hb rfl (h.2.1 k hk).2.1,aM hb rfl (h.2.1 k hk).2.2⟩,fun i hi=>aM hb rfl (h.2.2.1 i hi),fun i hi=>aM hb rfl (h.2.2.2 i hi)⟩
theorem yD (s:Bs) (w:World) (hT:a 6 7 w):Calls b 95 #[valStr s] w (aW (.int .i64 (if aU ⟨s.toArray⟩=true then 0 else 200)) w):=by
 have HW:=hid (Dn ⟨s.toArray⟩ w hT);clear hT
 cases hb:aU ⟨s.toArray⟩
 all_goals
  rw[hb] at HW;clear hb;go_enter func95,ntmps95;go_wp2_with fail;refine HW.q.mono ?_;rintro e w1 ⟨rfl,hb1⟩;have HB:=hid hb1;clear hb1;go_wp2_with fail;go_ret;exact⟨rfl,HB.q⟩
theorem EC (s:Bs) (w:World) (hT:a 6 7 w):Calls b 94 #[valStr s] w (aW (.bool (!aU ⟨s.toArray⟩)) w):=by
 have HW:=hid (yD s w hT);clear hT
 cases hb:aU ⟨s.toArray⟩
 all_goals
  rw[hb] at HW;clear hb;go_enter func94,ntmps94;go_wp2_with fail;refine HW.q.mono ?_;rintro e w1 ⟨rfl,hb1⟩;have HB:=hid hb1;clear hb1;simp only[if_true,Bool.false_eq_true,if_false];go_wp2_with fail;go_ret;exact⟨rfl,HB.q⟩
def gZ (t:To):Prop:=t=⟨[],0⟩∨(aU ⟨t.name.toArray⟩=true∧0<t.k∧t.k≤999)
theorem abx (t:To) (w:World) (hT:a 6 7 w) (ht:gZ t):Calls b 92 #[qQ t] w (aW (.bool true) w):=by
 rcases ht with rfl|⟨hw,h0,h9⟩
 ·have hq:=Jo ⟨[],0⟩ ⟨[],0⟩
  go_enter func92,ntmps92;go_wp2_with fail;go_ret;exact⟨by simp,av (Below.refl _ _) _⟩
 ·obtain⟨n,k⟩:=t
  simp only at hw h0 h9;have hb0:=av (Below.refl w.heap.size w) (.cells #[.string ⟨n.toArray⟩,.int .i64 k] 76);have HW:=hid (yD n _ (Utf8Tabs_below hT hb0));rw[hw] at HW;have HB:=hid hb0;have HX:=hid (Bx.new w #[.string ⟨n.toArray⟩,.int .i64 k] 76);have hk:(k==0)=false:=beq_eq_false_iff_ne.2 ah;clear hT hw hb0;go_enter func92,ntmps92;go_wp2_with fail;refine HW.q.mono ?_;rintro e w1 ⟨rfl,hb1⟩;have hx:=(HX.q.keep hb1).1;have HB1:=hid (HB.q.bq hb1);clear hb1;simp only[if_true];go_wp2_with fail;go_ret;exact⟨by simp,HB1.q⟩
theorem QZ (t:To) (w:World) (hT:a 6 7 w) (ht:gZ t):Calls b 91 #[qQ t] w (aW (.bool false) w):=by
 have hb0:=av (Below.refl w.heap.size w) (.cells (Mt t) 76);have HW:=hid (abx t _ (Utf8Tabs_below hT hb0) ht);have HB:=hid hb0;clear hT hb0 ht;go_enter func91,ntmps91;go_wp2_with fail;refine HW.q.mono ?_;rintro e w1 ⟨rfl,hb1⟩;have HB1:=hid (HB.q.bq hb1);clear hb1;go_wp2_with fail;go_ret;exact⟨rfl,HB1.q⟩
theorem Gg (l:Nat) (h1:1≤l) (h4:l≤4) (w:World) (hg:jY w):Calls b 58 #[.int .i64 l] w (pG (.string ⟨(fJ l).toArray⟩) (.int .i64 0) w):=by
 have hl:wI (l:Int)=0:=EA (by simp[dJ];omega);have HL:=hid hl;have HG:=hid hg;clear hl hg;go_enter func58,ntmps58;go_wp2_with fail;refine(yB _ _).mono ?_;rintro e w1 ⟨rfl,hb1⟩;rw[HL.q];have hc:=(HG.q.below hb1).2.2.2 l ah;have HB:=hid hb1;clear hb1;go_wp2_with fail
 go_ret2
 exact⟨rfl,HB.q⟩
end Yd
