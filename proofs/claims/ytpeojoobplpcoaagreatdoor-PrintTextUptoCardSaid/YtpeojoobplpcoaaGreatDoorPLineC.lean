import Derived.Test.YtpeojoobplpcoaaGreatDoorPSpoken3
set_option linter.all false
set_option maxRecDepth 200000
set_option maxHeartbeats 8000000
namespace Yd
open Go Go.RowKit Go.Proofs Tryz
open Lib renaming Utf8Tabs->a
open Tryz renaming prog->b
def bB:Nat->Bs
 |0=>[]
 |1=>[98,101,103,105,110]
 |2=>[119,114,105,116,101]
 |3=>[114,101,97,100]
 |4=>[115,99,97,110]
 |5=>[99,111,109,109,105,116]
 |6=>[97,98,111,114,116]
 |7=>[111,114,100,101,114]
 |8=>[109,97,116,99,104]
 |_=>[119,97,110,116]
def bS:Nat->Int
 |0=>0
 |1=>2
 |2=>2
 |3=>2
 |4=>2
 |5=>1
 |6=>1
 |7=>1
 |8=>2
 |_=>1
def dG:Nat->Int
 |0=>0
 |1=>108
 |2=>0
 |3=>118
 |4=>115
 |5=>0
 |6=>0
 |7=>116
 |8=>109
 |_=>103
def lg:Nat->Bs
 |0=>[114,121,119]
 |1=>[109,114]
 |2=>[109,119]
 |_=>[119,102,114]
def kG:Nat->Bs
 |0=>[]
 |1=>[49]
 |2=>[50]
 |3=>[50,46,57,57]
 |_=>[51]
def kg (w:World):Prop:=wz w/\(∀k,k<10->w.cell? ⟨0,3*k,none⟩=some (.string ⟨(bB k).toArray⟩)/\w.cell? ⟨0,3*k+1,none⟩=some (.int .i64 (bS k))/\w.cell? ⟨0,3*k+2,none⟩=some (.int .i32 (dG k)))/\
 (∀i,i<4->w.cell? ⟨1,i,none⟩=some (.string ⟨(lg i).toArray⟩))/\(∀i,i<5->w.cell? ⟨3,i,none⟩=some (.string ⟨(kG i).toArray⟩))
theorem kg.below {w w':World}(h:kg w)(hb:Below w.1.size w w'):kg w':=
 ⟨h.1.below hb,λk hk=>⟨bn hb rfl (h.2.1 k hk).1,bn hb rfl (h.2.1 k hk).2.1,bn hb rfl (h.2.1 k hk).2.2⟩,λi hi=>bn hb rfl (h.2.2.1 i hi),λi hi=>bn hb rfl (h.2.2.2 i hi)⟩
theorem CR (s:Bs)(w:World)(hT:a 6 7 w):Calls b 97 #[valStr s] w (dw (.int .i64 (if bF ⟨s.toArray⟩=true then 0 else 200)) w):=by
 have HW:=hid (I8 ⟨s.toArray⟩ w hT);clear hT
 cases hb:bF ⟨s.toArray⟩
 all_goals
  rw[hb] at HW;clear hb;go_enter func97,ntmps97;go_wp2_with fail;refine HW.q.mono ?_;rintro e w1 ⟨rfl,hb1⟩;have HB:=hid hb1;clear hb1;go_wp2_with fail;go_ret;exact⟨rfl,HB.q⟩
theorem JZ (s:Bs)(w:World)(hT:a 6 7 w):Calls b 96 #[valStr s] w (dw (.bool (!bF ⟨s.toArray⟩)) w):=by
 have HW:=hid (CR s w hT);clear hT
 cases hb:bF ⟨s.toArray⟩
 all_goals
  rw[hb] at HW;clear hb;go_enter func96,ntmps96;go_wp2_with fail;refine HW.q.mono ?_;rintro e w1 ⟨rfl,hb1⟩;have HB:=hid hb1;clear hb1;simp only[bY,DT,fF];go_wp2_with fail;go_ret;exact⟨rfl,HB.q⟩
def j5 (t:To):Prop:=t=⟨[],0⟩\/(bF ⟨t.name.toArray⟩=true/\0<t.k/\t.k<=999)
theorem afw (t:To)(w:World)(hT:a 6 7 w)(ht:j5 t):Calls b 94 #[rV t] w (dw (.bool true) w):=by
 rcases ht with rfl|⟨hw,h0,h9⟩
 .have hq:=Wp ⟨[],0⟩ ⟨[],0⟩
  go_enter func94,ntmps94;go_wp2_with fail;go_ret;exact⟨by simp,aA (Below.refl _ _) _⟩
 .obtain⟨n,k⟩:=t
  simp only at hw h0 h9;have hb0:=aA (Below.refl w.1.size w) (.cells #[.string ⟨n.toArray⟩,.int .i64 k] 144);have HW:=hid (CR n _ (Utf8Tabs_below hT hb0));rw[hw] at HW;have HB:=hid hb0;have HX:=hid (Bx.new w #[.string ⟨n.toArray⟩,.int .i64 k] 144);have hk:(k==0)=false:=aU.2 ah;clear hT hw hb0;go_enter func94,ntmps94;go_wp2_with fail;refine HW.q.mono ?_;rintro e w1 ⟨rfl,hb1⟩;have hx:=(HX.q.keep hb1).1;have HB1:=hid (HB.q.bZ hb1);clear hb1;simp only[bY];go_wp2_with fail;go_ret;exact⟨by simp,HB1.q⟩
theorem Wq (t:To)(w:World)(hT:a 6 7 w)(ht:j5 t):Calls b 93 #[rV t] w (dw (.bool false) w):=by
 have hb0:=aA (Below.refl w.1.size w) (.cells (R7 t) 144);have HW:=hid (afw t _ (Utf8Tabs_below hT hb0) ht);have HB:=hid hb0;clear hT hb0 ht;go_enter func93,ntmps93;go_wp2_with fail;refine HW.q.mono ?_;rintro e w1 ⟨rfl,hb1⟩;have HB1:=hid (HB.q.bZ hb1);clear hb1;go_wp2_with fail;go_ret;exact⟨rfl,HB1.q⟩
theorem LY (l:Nat)(h1:1<=l)(h4:l<=4)(w:World)(hg:kg w):Calls b 63 #[.int .i64 l] w (uF (.string ⟨(kG l).toArray⟩) (.int .i64 0) w):=by
 have hl:AZ (l:Int)=0:=J2 (by simp[fP];omega);have HL:=hid hl;have HG:=hid hg;clear hl hg;go_enter func63,ntmps63;go_wp2_with fail;refine(CS _ _).mono ?_;rintro e w1 ⟨rfl,hb1⟩;rw[HL.q];have hc:=(HG.q.below hb1).2.2.2 l ah;have HB:=hid hb1;clear hb1;go_wp2_with fail
 go_ret2
 exact⟨rfl,HB.q⟩
end Yd
