import Derived.Test.YtnhnhmeogckgpaaGreatDoorTInfo
import Derived.Test.YtnhnhmeogckgpaaGreatDoorTShelf
import Derived.LoopIn
import Derived.LoopNIn
import Derived.TacticsInMore
import Derived.OwnWalkIn
import Derived.Shelf.Abstract
import Derived.Shelf.RegionOpen
import Derived.Lib.OthersKept
import Derived.Lib.RuneCountTail
import Derived.WalkMore
import Derived.ScopeJumps
import Derived.Maps.Own
import Derived.Maps.Views
import Derived.Maps.Keyed
import Derived.StringKeys
import Derived.Maps.OwnSet
import Derived.Test.YtnhnhmeogckgpaaGreatDoorTOrdV
import Derived.Scope
set_option linter.all false
set_option maxRecDepth 200000
set_option maxHeartbeats 8000000
namespace Yd
open Bool renaming false→o,true→x
open Go Go.RowKit Go.Proofs Tryz
open Below renaming refl→g
open Go renaming World→p,Calls→y,bodyPost_ret→A
open Go.Value renaming pointer→j,bool→u,int→C
open Lib renaming iterAt_size→k,decodeGo→E
open Tryz renaming prog→c
open Utf8 renaming decode→b
open _root_ renaming ByteArray→m,Int→t,Nat→z
def iY (r:t):Bool:=decide (48≤r) && decide (r≤57)
theorem kJ (r:t) (w:p):y c 189 #[.int .i32 r] w (aW (u (iY r)) w):=by
 by_cases h1:48≤r
 ·by_cases h2:r≤57
  ·have hq:iY r=x:=by simp[iY,h1,h2]
   rw[hq];clear hq;go_enter func189,ntmps189;go_wp2_with fail;go_ret;exact⟨rfl,g _ _⟩
  ·have hq:iY r=o:=by simp[iY,h2]
   rw[hq];clear hq;go_enter func189,ntmps189;go_wp2_with fail;go_ret;exact⟨rfl,g _ _⟩
 ·have hq:iY r=o:=by simp[iY,h1]
  rw[hq];clear hq;go_enter func189,ntmps189;go_wp2_with fail;go_ret;exact⟨rfl,g _ _⟩
def iO (r:t):Bool:=decide (r=95)||(decide (97≤r) && decide (r≤122))||(decide (65≤r) && decide (r≤90))||decide (128≤r)
theorem Un (r:t) (w:p) (h0:r=95) (_h1:¬97≤r) (_h2:r≤122) (_h3:65≤r) (_h4:¬r≤90) (_h5:¬128≤r):y c 234 #[.int .i32 r] w (aW (u x) w):=by
 skip;go_enter func234,ntmps234;go_wp2_with fail;go_ret;exact⟨rfl,g _ _⟩
theorem Uo (r:t) (w:p) (h0:¬r=95) (h1:97≤r) (h2:r≤122) (_h3:65≤r) (_h4:¬r≤90) (_h5:¬128≤r):y c 234 #[.int .i32 r] w (aW (u x) w):=by
 have hb:(r==95)=o:=beq_eq_false_iff_ne.2 h0;go_enter func234,ntmps234;go_wp2_with fail;go_ret;exact⟨rfl,g _ _⟩
theorem Uq (r:t) (w:p) (h0:¬r=95) (h1:97≤r) (h2:¬r≤122) (h3:65≤r) (h4:¬r≤90) (h5:¬128≤r):y c 234 #[.int .i32 r] w (aW (u o) w):=by
 have hb:(r==95)=o:=beq_eq_false_iff_ne.2 h0;go_enter func234,ntmps234;go_wp2_with fail;go_ret;exact⟨rfl,g _ _⟩
theorem Ur (r:t) (w:p) (h0:¬r=95) (h1:97≤r) (h2:¬r≤122) (h3:65≤r) (h4:¬r≤90) (h5:128≤r):y c 234 #[.int .i32 r] w (aW (u x) w):=by
 have hb:(r==95)=o:=beq_eq_false_iff_ne.2 h0;go_enter func234,ntmps234;go_wp2_with fail;go_ret;exact⟨rfl,g _ _⟩
theorem Us (r:t) (w:p) (h0:¬r=95) (h1:¬97≤r) (_h2:r≤122) (h3:65≤r) (h4:r≤90) (_h5:¬128≤r):y c 234 #[.int .i32 r] w (aW (u x) w):=by
 have hb:(r==95)=o:=beq_eq_false_iff_ne.2 h0;go_enter func234,ntmps234;go_wp2_with fail;go_ret;exact⟨rfl,g _ _⟩
theorem Ut (r:t) (w:p) (h0:¬r=95) (h1:¬97≤r) (_h2:r≤122) (h3:65≤r) (h4:¬r≤90) (h5:¬128≤r):y c 234 #[.int .i32 r] w (aW (u o) w):=by
 have hb:(r==95)=o:=beq_eq_false_iff_ne.2 h0;go_enter func234,ntmps234;go_wp2_with fail;go_ret;exact⟨rfl,g _ _⟩
theorem Uu (r:t) (w:p) (h0:¬r=95) (h1:¬97≤r) (_h2:r≤122) (h3:¬65≤r) (_h4:r≤90) (h5:¬128≤r):y c 234 #[.int .i32 r] w (aW (u o) w):=by
 have hb:(r==95)=o:=beq_eq_false_iff_ne.2 h0;go_enter func234,ntmps234;go_wp2_with fail;go_ret;exact⟨rfl,g _ _⟩
theorem Oj (r:t) (w:p):y c 234 #[.int .i32 r] w (aW (u (iO r)) w):=by
 by_cases h0:r=95
 ·have hq:iO r=x:=by simp[iO,h0]
  rw[hq];exact Un r w h0 ah ah ah ah ah
 by_cases h1:97≤r
 ·by_cases h2:r≤122
  ·have hq:iO r=x:=by simp[iO,h1,h2]
   rw[hq];exact Uo r w h0 h1 h2 ah ah ah
  ·by_cases h5:128≤r
   ·have hq:iO r=x:=by simp[iO,h5]
    rw[hq];exact Ur r w h0 h1 h2 ah ah h5
   ·have hq:iO r=o:=by simp[iO];omega
    rw[hq];exact Uq r w h0 h1 h2 ah ah h5
 ·by_cases h3:65≤r
  ·by_cases h4:r≤90
   ·have hq:iO r=x:=by simp[iO,h3,h4]
    rw[hq];exact Us r w h0 h1 ah h3 h4 ah
   ·have hq:iO r=o:=by simp[iO];omega
    rw[hq];exact Ut r w h0 h1 ah h3 h4 ah
  ·have hq:iO r=o:=by simp[iO];omega
   rw[hq];exact Uu r w h0 h1 ah h3 ah ah
def fV (r:t):Bool:=iO r||iY r
theorem zG (r:t) (w:p):y c 191 #[.int .i32 r] w (aW (u (fV r)) w):=by
 cases hl:iO r
 all_goals
  have HL:=hid hl;clear hl;go_enter func191,ntmps191;go_wp2_with fail;refine(Oj r w).mono ?_;rintro e w1 ⟨rfl,hb1⟩;rw[HL.q];have HB:=hid hb1;clear hb1;go_wp2_with fail
 ·refine(kJ r w1).mono ?_
  rintro e w2 ⟨rfl,hb2⟩;go_wp2_with fail;go_ret;exact⟨by simp[fV,HL.q],HB.q.bq hb2⟩
 ·go_ret
  exact⟨by simp[fV,HL.q],HB.q⟩
def okB (s:m) (pos:z):Bool:=!(((b s pos).1:t)==65533)||decide (1<((b s pos).2:t))
theorem aeV {s:m} {pos:z} (h:(((b s pos).1:t)==65533)=o):okB s pos=x:=by unfold okB;rw[h];rfl
theorem aeW {s:m} {pos:z} (h:(((b s pos).1:t)==65533)=x):okB s pos=decide (1<((b s pos).2:t)):=by unfold okB;rw[h];rfl
theorem Ie (s:m) (pos:z) (h:pos<s.size):E (s.extract pos s.size)=b s pos:=by
 unfold E;rw[if_neg (by rw[Lib.tail_size];omega),Lib.tail_decode,Nat.add_zero]
theorem abf (s:m) (pos:z) (hp:pos<s.size) (bs b3 b4:z) (w:p) (hs:Bx w bs #[.string s]) (h3:Bx w b3 #[C .i64 pos]) (h4:Bx w b4 #[.int .i32 (b s pos).1]) (hT:Lib.Utf8Tabs 6 7 w):
  y c 257 #[j (some ⟨bs,0,none⟩),j (some ⟨b3,0,none⟩),j (some ⟨b4,0,none⟩)] w (pG (.int .i32 (b s pos).1) (u (okB s pos)) w):=by
 have hc:=hs.1;have hc3:=h3.1;have hc4:=h4.1;have HD:=hid (Tryz.utf8_DecodeRuneInString (s.extract pos s.size) w hT);have HE:=hid (Ie s pos hp);have H4:=hid h4;have hlt:=hs.2.2;have hlt3:=h3.2.2;have aao:=h4.2.2;clear hs h3 h4;obtain⟨r,hr⟩:∃r:t,r=((b s pos).1:t):=⟨_,rfl⟩;obtain⟨d,hd⟩:∃d:t,d=((b s pos).2:t):=⟨_,rfl⟩;have hok1:(r==65533)=o→okB s pos=x:=fun h=>aeV (by rw[←hr];exact h)
 have hok2:(r==65533)=x→okB s pos=decide (1<d):=fun h=>by rw[hd];exact aeW (by rw[←hr];exact h)
 rw[←hr];go_enter func257,ntmps257;go_wp2_with fail;refine HD.q.mono ?_;rintro e w1 ⟨rfl,hb1⟩;rw[HE.q,←hr,←hd];have ahD:=(H4.q.keep hb1).1;rw[←hr] at ahD;have HB:=hid hb1;clear hb1;have HR:=hid hr;have vI:=hid hd;clear hr hd;by_cases h5:¬r=65533
 ·have hq:(r==65533)=o:=beq_eq_false_iff_ne.2 h5
  have HO:=hid (hok1 hq);clear hok1 hok2;go_wp2_with fail;refine A (v:= .tuple #[.int .i32 r,u (okB s pos)]) (by simp[results,results257,go_sem,HO.q]) rfl ⟨rfl,HB.q⟩
 ·have h5:=Decidable.not_not.1 h5
  subst h5;have HO:=hid (hok2 rfl);clear hok1 hok2;go_wp2_with fail;refine A (v:= .tuple #[.int .i32 65533,u (okB s pos)]) (by simp[results,results257,go_sem,HO.q]) rfl ⟨rfl,HB.q⟩
def bE (s:m):z→z→List z
 |0,_=>[]
 |n+1,pos=>if pos<s.size then pos::bE s n (pos+(b s pos).2) else []
def MH (s:m) (bs B:z) (pos:z) (args:Array Value) (X:p):Prop:=
 pos<s.size∧∃b3 b4,bs<b3∧B<b3∧b3<b4∧args=#[C .i64 pos,.func (.func 257) #[] #[j (some ⟨bs,0,none⟩),j (some ⟨b3,0,none⟩),j (some ⟨b4,0,none⟩)]]∧
  Bx X bs #[.string s]∧Bx X b3 #[C .i64 pos]∧Bx X b4 #[.int .i32 (b s pos).1]
theorem width_pos (s:m) (pos:z) (h:pos<s.size):1≤(b s pos).2:=by
 by_cases ha:(s[pos]'h).toNat<128
 ·rw[decode_ascii s pos h ha]
  exact Nat.le_refl _
 ·exact(decode_high s pos h ah).2
theorem iq (W:p) (s:m):Below W.heap.size W (W.iter s 0):=(g _ _).alloc (Nat.le_refl _) _
theorem YS:∀args w,(callFunc 256 args).run c w= .ok (.enter 256 args) w:=enters_of func256 au rfl
attribute [local go_sem] Oper.semAt_some
theorem Ol (s:m) (bs:z) (D:z→Prop) (W:p) (hs:Bx W bs #[.string s]) (QH:D bs) (Xt:D W.heap.size):
  Iter c 256 #[j (some ⟨bs,0,none⟩)] (MH s bs W.heap.size) 1 D (bE s s.size 0) W:=by
 intro n l J Jx hJ hJx hY h0;refine callsIn_of_wp func256 rfl trivial ?_ rfl;simp only[ntmps256,List.size_toArray,List.length_cons,List.length_nil,Nat.reduceAdd,Nat.reduceSub,Array.replicate_succ,Array.replicate_zero,List.push_toArray,List.append_toArray,List.nil_append,List.cons_append];have hc:=hs.1
 gi_wp2
 gi_loopw [] (fun wr=>∃(pos fuel:z) (pre:List z),pre++bE s fuel pos=bE s s.size 0∧wr.heap[W.heap.size]?=some (.stringIter s pos)∧J pre wr∧Bx wr bs #[.string s]∧s.size≤pos+fuel) (fun wr=>s.size - wr.iterPos W.heap.size)
 case atStart=>
  refine⟨0,s.size,[],rfl,World.iter_heap W s 0,?_,hs.keep (iq W s),by omega⟩;exact hJ _ _ _ h0 (.of_below (iq W s) (fun i _ hi=>hi))
 case round=>
  obtain⟨pos,fuel,pre,hpre,hit,hj,hsr,hfu⟩:=hrel;have hlt:W.heap.size<wr.heap.size:=(Array.getElem?_eq_some_iff.1 hit).1;by_cases hp:pos<s.size
  ·have hnx:∀ty,(Instr.next (j (some ⟨W.heap.size,0,none⟩)) x ty).run c wr=_:=fun ty=>Lib.run_next_any_at wr W.heap.size s pos ty hit hp
   have hwd:=width_pos s pos hp;obtain⟨f,rfl⟩:∃f,fuel=f+1:=⟨fuel - 1,by omega⟩;have Ev:bE s (f+1) pos=pos::bE s f (pos+(b s pos).2):=by simp[bE,hp]
   rw[Ev] at hpre;have hit2:=Lib.iterAt_heap wr W.heap.size s pos (pos+(b s pos).2) hit;obtain⟨X,hX⟩:∃X,X=((wr.iterAt W.heap.size s (pos+(b s pos).2)).alloc (.cells #[C .i64 pos] 3)).alloc (.cells #[.int .i32 (b s pos).1] 21):=⟨_,rfl⟩;have hbX:Below wr.heap.size (wr.iterAt W.heap.size s (pos+(b s pos).2)) X:=by
    rw[hX];exact((g _ _).alloc (by rw[k];exact Nat.le_refl _) _).alloc (by simp[k]) _
   have QI:X.heap.size=wr.heap.size+2:=by rw[hX];simp[k]
   have hsame:∀i,i<wr.heap.size→i≠W.heap.size→X.heap[i]?=wr.heap[i]?:=fun i hi hne=>(hbX.block i hi).trans (Lib.iterAt_other wr _ i s _ hne)
   have QJ:J pre X:=hJ _ _ _ hj ⟨hbX.os,hbX.tape,hbX.output,by omega,fun i hor hi=>hsame i hi ah⟩;have hneb:bs≠W.heap.size:=by have:=hs.2.2;omega
   have Om:Bx X bs #[.string s]:=⟨fun i=>(World.cell?_of_block (a:=⟨bs,i,none⟩) (hsame bs hsr.2.2 hneb)).trans (hsr.1 i),fun i=>(World.frozen?_of_block (a:=⟨bs,i,none⟩) (hsame bs hsr.2.2 hneb)).trans (hsr.2.1 i),by rw[QI];have:=hsr.2.2;omega⟩;have hX3:Bx X wr.heap.size #[C .i64 pos]:=by
    have:=(Bx.new (wr.iterAt W.heap.size s (pos+(b s pos).2)) #[C .i64 pos] 3).alloc (.cells #[.int .i32 (b s pos).1] 21);rw[k,←hX] at this;exact this
   have hX4:Bx X (wr.heap.size+1) #[.int .i32 (b s pos).1]:=by
    have:=Bx.new ((wr.iterAt W.heap.size s (pos+(b s pos).2)).alloc (.cells #[C .i64 pos] 3)) #[.int .i32 (b s pos).1] 21;rw[World.size_alloc,k,←hX] at this;exact this
   have abg:X.heap[W.heap.size]?=some (.stringIter s (pos+(b s pos).2)):=(hbX.block _ hlt).trans hit2;obtain⟨fn,tmps,assign,body,hy,hR⟩:=hY pre pos #[C .i64 pos,.func (.func 257) #[] #[j (some ⟨bs,0,none⟩),j (some ⟨wr.heap.size,0,none⟩),j (some ⟨wr.heap.size+1,0,none⟩)]] X QJ
    ⟨bE s f (pos+(b s pos).2),by rw[←hpre];simp⟩ ⟨hp,wr.heap.size,wr.heap.size+1,hsr.2.2,hlt,by omega,rfl,Om,hX3,hX4⟩ ah (n - 1)
   have hc2:=Om.1;have HA:=hid hX;have HK:=hid Om;have HZ:=hid (⟨hpre,abg,hlt,hfu,hwd,QI,hit⟩:_∧_∧_∧_∧_∧_∧_);rw[hX] at hy hR;have ak6:=k wr W.heap.size s (pos+(b s pos).2);have hcr:=hsr.1;clear hX hbX QI hsame QJ Om hX3 hX4 abg hsr hj hpre hfu hwd hit2 Ev
   gi_wp2
   refine⟨fun h=>(by cases h),?_⟩;refine hR.mono ?_;rintro e W' (⟨rfl,hJ',hk⟩|⟨rfl,AZ,_⟩)
   ·clear hR hy
    have hit3:W'.heap[W.heap.size]?=some (.stringIter s (pos+(b s pos).2)):=by
     have h1:=HZ.q;have h2:=HA.q;rw[←h2] at hk;exact(hk.2 _ Xt ah).trans h1.2.1
    have Oo:Bx W' bs #[.string s]:=by
     have h1:=HK.q;have h2:=HA.q;rw[←h2] at hk;exact⟨fun i=>(World.cell?_of_block (a:=⟨bs,i,none⟩) (hk.2 _ QH h1.2.2)).trans (h1.1 i),fun i=>(World.frozen?_of_block (a:=⟨bs,i,none⟩) (hk.2 _ QH h1.2.2)).trans (h1.2.1 i),Nat.lt_of_lt_of_le h1.2.2 hk.1⟩
    clear hk
    gi_wp2
    go_roundw
    case rel=>exact⟨pos+(b s pos).2,f,pre++[pos],by rw[←HZ.q.1];simp,hit3,hJ',Oo,by have:=HZ.q;omega⟩
    case measure=>
     have:=HZ.q;simp only[World.iterPos,hit3,this.2.2.2.2.2.2];omega
   ·clear hR hy
    gi_wp2
    refine A (results_none rfl _ _ _) rfl ?_;exact⟨_,rfl,.inr ⟨pre++[pos],⟨bE s f (pos+(b s pos).2),by rw[←HZ.q.1];simp⟩,AZ⟩⟩
  ·have hnx:∀ty,(Instr.next (j (some ⟨W.heap.size,0,none⟩)) x ty).run c wr=_:=fun ty=>Lib.run_next_end_at wr W.heap.size s pos ty hit hp
   gi_wp2
   go_end0
   refine⟨_,rfl,.inl ?_⟩;have:bE s fuel pos=[]:=by cases fuel <;> simp[bE,hp]
   rw[this,List.append_nil] at hpre;rw[←hpre];exact hj
end Yd
namespace Yd
open Go Go.RowKit Go.Proofs Tryz
open Below renaming heap_setCell→d,refl→f
open Go.Obj renaming cells→a
attribute [local go_sem] Oper.semAt_some
theorem QK (s:ByteArray) (w:World):Calls Tryz.prog 233 #[.string s] w fun e w'=>e= .returned (.func (.func 256) #[] #[.pointer (some ⟨w.heap.size,0,none⟩)])∧w'=w.alloc (a #[.string s] 9):=by
 go_enter func233,ntmps233;go_wp2_with fail;go_ret;exact⟨rfl,rfl⟩
def oM (s:ByteArray) (p:Int→Bool) (pos:Nat):Bool:=!(okB s pos && p (Utf8.decode s pos).1)
def dO (s:ByteArray) (p:Int→Bool):Nat:=((bE s s.size 0).find? (oM s p)).getD s.size
theorem Uv {l pre:List Nat} {x:Nat} {q:Nat→Bool} (h:pre++[x]<+:l) (ha:∀y∈pre,q y=false) (hx:q x=true):l.find? q=some x:=by
 obtain⟨t,rfl⟩:=h;rw[List.append_assoc,List.find?_append,List.find?_eq_none.2 (fun y hy=>by simp[ha y hy])];simp[hx]
theorem Bx.set1 {X:World} {b:Nat} {u:Value} (h:Bx X b #[u]) (v:Value):Bx (X.setCell ⟨b,0,none⟩ v) b #[v]:=by
 refine⟨fun i=>?_,fun i=>by rw[World.frozen?_setCell];exact h.2.1 i,by have:=h.2.2;simpa[World.setCell] using this⟩
 cases i with
 |zero=>exact World.cell?_setCell_same' _ _ _ (by rw[h.1 0];rfl)
 |succ i=>rw[World.cell?_setCell_other _ _ _ _ ak];rw[h.1 (i+1)];simp
theorem rQ (s:ByteArray) (gf:Nat) (lb:Array Value) (eg:∀args w,(callFunc gf args).run Tryz.prog w= .ok (.enter gf args) w) (p:Int→Bool) (w:World)
  (hp:∀(r:Int) W',Below w.heap.size w W'→Calls Tryz.prog gf (#[.int .i32 r]++lb) W' (aW (.bool (p r)) W')) (hT:Lib.Utf8Tabs 6 7 w):
  Calls Tryz.prog 190 #[.string s,.func (.func gf) #[] lb] w (aW (.int .i64 (dO s p)) w):=by
 refine(callsIn_wide (n:=3)).1 ?_;refine callsIn_of_wp_marks func190 rfl trivial ?_ rfl;simp only[ntmps190,List.size_toArray,List.length_cons,List.length_nil,Nat.reduceAdd,Nat.reduceSub,Array.replicate_succ,Array.replicate_zero,List.push_toArray,List.append_toArray,List.nil_append,List.cons_append];refine wpIn_wide.2 ?_;go_wp2_with fail
 go_step3
 go_wp2_with fail
 go_step3
 go_wp2_with (go_at_call 233;refine(QK _ _).mono ?_;rintro e w' ⟨rfl,rfl⟩)
 have hs1:((w.alloc (a #[.func (.func gf) #[] lb] 232)).alloc (a #[.int .i64 s.size] 3)).heap.size=w.heap.size+2:=by simp
 have wF:(((w.alloc (a #[.func (.func gf) #[] lb] 232)).alloc (a #[.int .i64 s.size] 3)).alloc (a #[.string s] 9)).heap.size=w.heap.size+3:=by simp
 have A8:Below w.heap.size w (((w.alloc (a #[.func (.func gf) #[] lb] 232)).alloc (a #[.int .i64 s.size] 3)).alloc (a #[.string s] 9)):=
  (((f w.heap.size w).alloc (Nat.le_refl _) _).alloc ak _).alloc (by simp;omega) _
 have pu:Bx (((w.alloc (a #[.func (.func gf) #[] lb] 232)).alloc (a #[.int .i64 s.size] 3)).alloc (a #[.string s] 9)) w.heap.size #[.func (.func gf) #[] lb]:=
  ((Bx.new w #[.func (.func gf) #[] lb] 232).alloc _).alloc _
 have hV1:Bx (((w.alloc (a #[.func (.func gf) #[] lb] 232)).alloc (a #[.int .i64 s.size] 3)).alloc (a #[.string s] 9)) (w.heap.size+1) #[.int .i64 s.size]:=by
  have:=(Bx.new (w.alloc (a #[.func (.func gf) #[] lb] 232)) #[.int .i64 s.size] 3).alloc (a #[.string s] 9);rw[World.size_alloc] at this;exact this
 have hV2:Bx (((w.alloc (a #[.func (.func gf) #[] lb] 232)).alloc (a #[.int .i64 s.size] 3)).alloc (a #[.string s] 9)) (w.heap.size+2) #[.string s]:=by
  have:=Bx.new ((w.alloc (a #[.func (.func gf) #[] lb] 232)).alloc (a #[.int .i64 s.size] 3)) #[.string s] 9;rw[hs1] at this;exact this
 clear hs1;revert wF A8 pu hV1 hV2;generalize((w.alloc (a #[.func (.func gf) #[] lb] 232)).alloc (a #[.int .i64 s.size] 3)).alloc (a #[.string s] 9)=V;intro wF A8 pu hV1 hV2;refine wpIn_wide.1 (Ga (n:=3) (gf:=256) (lb:=#[.pointer (some ⟨w.heap.size+2,0,none⟩)]) (by simp[go_sem]) YS
  (qD:=MH s (w.heap.size+2) (V.heap.size+2)) (k:=1) (D:=fun i=>i<w.heap.size∨i=w.heap.size+2∨i=w.heap.size+5) (xs:=bE s s.size 0)
  (fun W hW hWs=>by have:=Ol s (w.heap.size+2) (fun i=>i<w.heap.size∨i=w.heap.size+2∨i=w.heap.size+5) W (hV2.keep hW) (.inr (.inl rfl)) (.inr (.inr ah));rw[hWs] at this;exact this) ah
  (fun x args X h=>by obtain⟨_,_,_,_,_,_,rfl,_⟩:=h;rfl)
  (fun pre X=>Below w.heap.size w X∧Bx X w.heap.size #[.func (.func gf) #[] lb]∧Bx X (w.heap.size+1) #[.int .i64 s.size]∧∀y∈pre,oM s p y=false)
  (fun c pre X=>c= .exit 0∧Below w.heap.size w X∧∃pos pre',pre=pre'++[pos]∧(∀y∈pre',oM s p y=false)∧oM s p pos=true∧Bx X (w.heap.size+1) #[.int .i64 pos])
  (fun pre X Y h k=>⟨k.below h.1 (fun i hi=> .inl ah) h.1.size,k.bx h.2.1 (.inl ah),k.bx h.2.2.1 (.inl ah),h.2.2.2⟩)
  (fun c pre X Y h k=>by
   obtain⟨h1,h2,pos,pre',h3,h4,h5,h6⟩:=h;exact⟨h1,k.below h2 (fun i hi=> .inl ah) h2.size,pos,pre',h3,h4,h5,k.bx h6 (.inl ah)⟩)
  ⟨A8,pu,hV1,fun _ h=>by cases h⟩ ?round ?done ?stop)
 case done=>
  rintro X ⟨hb,h0,h1,hall⟩ hdef;have hc:=h1.1;simp only[Exit.inBlock,Exit.then];go_wp2_with fail;refine⟨by simp,.inl ⟨_,_,rfl,run_takeDeferred hdef,?_⟩⟩;refine⟨_,results_tmp rfl _ _ _,?_,(Same.putObj (A:=fun i=>i<w.heap.size) X _ ah).below hb (fun i hi=>hi) hb.size⟩;rw[dO,List.find?_eq_none.2 (fun y hy=>by simp[hall y hy])];rfl
 case stop=>
  rintro c pre X hpre ⟨rfl,hb,pos,pre',rfl,hall,hst,h1⟩ hdef;have hc:=h1.1;refine wpIn_wide.2 ?_;go_wp2_with fail;refine⟨by simp,.inl ⟨_,_,rfl,run_takeDeferred hdef,?_⟩⟩;refine⟨_,results_tmp rfl _ _ _,?_,(Same.putObj (A:=fun i=>i<w.heap.size) X _ ah).below hb (fun i hi=>hi) hb.size⟩;rw[dO,Uv hpre hall hst];rfl
 case round=>
  rintro pre pos args X ⟨hb,h0,h1,hall⟩ hpre ⟨hps,b3,b4,hb3,hB3,hb4,rfl,hxs,hx3,hx4⟩ hsz m
  gi_wp2
  refine⟨f _ _,fun X2 hk=>?_⟩;have hb2:Below w.heap.size w X2:=hk.below hb (fun i hi=>by omega) hb.size;have h02:=hk.bx h0 ah;have h12:=hk.bx h1 ah;have hs2:=hk.bx hxs ah;have h32:=hk.bx hx3 ah;have h42:=hk.bx hx4 ah;have hT2:Lib.Utf8Tabs 6 7 X2:=Utf8Tabs_below hT hb2;have HZ:=hid (show V.heap.size+3≤X2.heap.size by have:=hk.size;omega);have HR:=hid (abf s pos hps (w.heap.size+2) b3 b4 X2 hs2 h32 h42 hT2);have HB:=hid hb2;have H0:=hid h02;have H1:=hid h12;clear hs2 h32 h42 hT2 hb2 h02 h12 hk hxs hx3 hx4 hb h0 h1
  gi_wp2
  refine⟨trivial,fun h=>(by cases h),?_⟩;refine(CallsIn.inRound _ (callsIn_wide.2 HR.q)).mono ?_;rintro e W3 ⟨rfl,hb3⟩;have HB3:=hid (HB.q.bq hb3);have QL:=hid (H0.q.keep hb3);have Ew:=hid (H1.q.keep hb3);have Jp:=hid hb3;have h03:=(QL.q).1;clear hb3;have h13:=Ew.q.1;have f13:=Ew.q.2.1
  cases hok:okB s pos
  ·have HO:=hid hok;clear hok
   gi_wp2
   refine⟨fun _ h=>(by cases h),?_⟩
   gi_wp2
   exact⟨⟨(d _ _ _ _ (by simp;omega)).trans (Jp.q.block _ (by have:=HZ.q;omega)),(d _ _ _ _ (by simp;omega)).trans (Jp.q.block _ (by have:=HZ.q;omega))⟩,
    (aP.of_below Jp.q (fun i _ hi=>hi)).trans ⟨by simp[World.setCell],fun i hi _=>d _ _ _ _ (by simp;omega)⟩,rfl,HB3.q.setCell (p:=⟨w.heap.size+1,0,none⟩) ak _,pos,pre,rfl,hall,by simp[oM,HO.q],Ew.q.set1 _⟩
  ·cases hpr:p (Utf8.decode s pos).1
   ·have HO:=hid hok;have HP:=hid hpr
    clear hok hpr
    gi_wp2
    refine⟨trivial,fun h=>(by cases h),?_⟩;refine(CallsIn.inRound _ (callsIn_wide.2 (hp _ _ HB3.q))).mono ?_;rintro e W4 ⟨rfl,hb4⟩;rw[HP.q];have eH:=hid (HB3.q.bq hb4);have H04:=hid (QL.q.keep hb4);have QM:=hid (Ew.q.keep hb4);have Jq:=hid (Jp.q.bq hb4);have h14:=QM.q.1;have f14:=QM.q.2.1;clear hb4 h13 h03 f13
    gi_wp2
    exact⟨⟨(d _ _ _ _ (by simp;omega)).trans (Jq.q.block _ (by have:=HZ.q;omega)),(d _ _ _ _ (by simp;omega)).trans (Jq.q.block _ (by have:=HZ.q;omega))⟩,
     (aP.of_below Jq.q (fun i _ hi=>hi)).trans ⟨by simp[World.setCell],fun i hi _=>d _ _ _ _ (by simp;omega)⟩,rfl,eH.q.setCell (p:=⟨w.heap.size+1,0,none⟩) ak _,pos,pre,rfl,hall,by simp[oM,HO.q,HP.q],QM.q.set1 _⟩
   ·have HO:=hid hok;have HP:=hid hpr
    clear hok hpr
    gi_wp2
    refine⟨trivial,fun h=>(by cases h),?_⟩;refine(CallsIn.inRound _ (callsIn_wide.2 (hp _ _ HB3.q))).mono ?_;rintro e W4 ⟨rfl,hb4⟩;rw[HP.q];have eH:=hid (HB3.q.bq hb4);have H04:=hid (QL.q.keep hb4);have QM:=hid (Ew.q.keep hb4);have Jq:=hid (Jp.q.bq hb4);clear hb4 h13 h03 f13
    gi_wp2
    exact⟨⟨Jq.q.block _ (by have:=HZ.q;omega),Jq.q.block _ (by have:=HZ.q;omega)⟩,aP.of_below Jq.q (fun i _ hi=>hi),eH.q,H04.q,QM.q,fun y hy=>by
     rcases List.mem_append.1 hy with h|h
     ·exact hall y h
     ·obtain rfl:y=pos:=by simpa using h
      simp[oM,HO.q,HP.q]⟩
end Yd
namespace Yd
open Go Go.RowKit Go.Proofs Tryz
theorem FD:∀args w,(callFunc 191 args).run Tryz.prog w= .ok (.enter 191 args) w:=enters_of func191 au rfl
def uU (s:ByteArray):Int:=if h:0<s.size then wrap32 (s[0]'h).toNat else 0
def aU (s:ByteArray):Bool:=!s.toList.isEmpty && decide ((s.size:Int)≤24) && !iY (uU s) && decide (dO s fV=s.size)
theorem Ig (s:ByteArray) (h:¬s.toList=[]):0<s.size:=by
 rcases Nat.eq_zero_or_pos s.size with h0|h0
 ·have e:s=ByteArray.empty:=by simpa using h0
  subst e;exact absurd ak h
 ·exact h0
theorem Dn (s:ByteArray) (w:World) (hT:Lib.Utf8Tabs 6 7 w):Calls Tryz.prog 123 #[.string s] w (aW (.bool (aU s)) w):=by
 by_cases h0:s.toList=[]
 ·have hq:aU s=false:=by simp[aU,h0]
  rw[hq];clear hq hT;go_enter func123,ntmps123;go_wp2_with fail;go_ret;exact⟨rfl,Below.refl _ _⟩
 have h1:s.toList.isEmpty=false:=by simp[h0]
 have hs:=Ig s h0;by_cases sM:(s.size:Int)≤24
 ·obtain⟨R,hR⟩:∃R:Bool,R=decide (dO s fV=s.size):=⟨_,rfl⟩
  have hq:aU s=(!iY (uU s) && R):=by simp[aU,h1,sM,hR]
  have hf:uU s=wrap32 (s[0]'hs).toNat:=by simp[uU,hs]
  rw[hq,hf];have HT:=hid hT;have HR:=hid hR;clear hq hf hT hR
  cases hn:iY (wrap32 (s[0]'hs).toNat)
  all_goals
   have HN:=hid hn;clear hn;go_enter func123,ntmps123;go_wp2_with fail;refine(kJ _ _).mono ?_;rintro e w1 ⟨rfl,hb1⟩;rw[HN.q];have HB:=hid hb1;clear hb1;go_wp2_with fail
  ·refine(rQ s 191 #[] FD fV w1 (fun r W' _=>zG r W') (Utf8Tabs_below HT.q HB.q)).mono ?_
   rintro e w2 ⟨rfl,hb2⟩;go_wp2_with fail;go_ret;refine⟨?_,HB.q.bq hb2⟩;rw[HR.q];by_cases hw:dO s fV=s.size
   ·simp[hw]
   ·have h2:¬((dO s fV:Int)=s.size):=by omega
    simp[hw,h2]
  ·go_ret
   exact⟨rfl,HB.q⟩
 ·have hq:aU s=false:=by simp[aU,sM]
  rw[hq];clear hq hT;have ak7:24<(s.size:Int):=by omega
  clear sM;go_enter func123,ntmps123;go_wp2_with fail;go_ret;exact⟨rfl,Below.refl _ _⟩
end Yd
namespace Yd
open List renaming getElem?_eq_some_iff→C,range→E,length_take→H,range_succ→N
open Option renaming some→f,none→y
open Go Go.RowKit Go.Proofs Go.Maps Tryz
open Go renaming World→u
open Go.Value renaming string→A,slice→M,bool→Q
open Go.WideMaps renaming keyOf_string_mk→B
open Tryz renaming prog→d,underlying9→t
open World renaming cell?_of_block→p,ownsMap_made→I
open _root_ renaming trivial→G,decide_eq_false→O
def qZ (W:u) (b:Nat) (ns:List Bs):Prop:=∃D:DataW Unit,IsMap D∧W.ownsMap d 9 (plainElem d 4) b ns.length D∧∀s:Bs,D.atKey (.string s) (.lit (.bool false))= .lit (.bool (decide (s∈ns)))
theorem qZ.new (w:u):qZ (w.alloc (.map #[] 0)) w.heap.size []:=⟨.map [],⟨[],rfl⟩,I _ _ _ _,fun s=>by simp[DataW.atKey]⟩
theorem Uw (w:u):(zeroValue 4).run d w= .ok (Q false) w:=au
theorem qZ.look {W:u} {b:Nat} {ns:List Bs} (h:qZ W b ns) (s:Bs) (hs:s.length≤24):(Instr.lookup 186 (.map (f b)) (A ⟨s.toArray⟩) false).run d W= .ok (Q (decide (s∈ns))) W:=by
 obtain⟨D,_,hown,hat⟩:=h;have hkey:keyOf d 9 (A ⟨s.toArray⟩)=f (.string s):=by
  have:=B (P:=d) (k:=9) t (s:=⟨s.toArray⟩) (by unfold maxLen;simp[ByteArray.size];omega)
  simpa using this
 obtain⟨v,ps,hrun,hv⟩:=hown.lookup (string_keyed t) underlying186 (Uw W) (plainElem_bool underlying4 false) hkey;rw[hat s] at hv;have hb:v= Q (decide (s∈ns)):=by
  unfold plainElem at hv;simp only[underlying4] at hv
  cases v <;> simp at hv
  rw[hv.1]
 rw[hrun,hb]
theorem qZ.put {W:u} {b:Nat} {ns:List Bs} (h:qZ W b ns) (s:Bs) (hs:s.length≤24) (hn:ns.length<maxLen):
  ∃w',(Instr.mapUpdate 186 (.map (f b)) (A ⟨s.toArray⟩) (Q true)).run d W= .ok () w'∧qZ w' b (ns++[s])∧W.grownBy w' (f b):=by
 obtain⟨D,hD,hown,hat⟩:=h;have hkey:keyOf d 9 (A ⟨s.toArray⟩)=f (.string s):=by
  have:=B (P:=d) (k:=9) t (s:=⟨s.toArray⟩) (by unfold maxLen;simp[ByteArray.size];omega)
  simpa using this
 obtain⟨w',hrun,r1,r2⟩:=hown.update (string_keyed t) underlying186 hn hkey (plainElem_bool underlying4 true);refine⟨w',hrun,⟨D.put (.string s) (.lit (.bool true)),hD.put _ _,by simpa using r1,fun x=>?_⟩,r2⟩;by_cases hx:x=s
 ·subst hx
  rw[atKey_put_same hD (by trivial)];simp
 ·rw[atKey_put_other (by simpa using hx),hat x];simp[hx]
theorem qZ.of_eq {W W':u} {b:Nat} {ns:List Bs} (h:qZ W b ns) (e:W'.heap[b]?=W.heap[b]?):qZ W' b ns:=by
 obtain⟨D,hD,⟨es,clock,hb,F,hs,hd⟩,hat⟩:=h;exact⟨D,hD,⟨es,clock,e.trans hb,F,hs,hd⟩,hat⟩
theorem qZ.lt {W:u} {b:Nat} {ns:List Bs} (h:qZ W b ns):b<W.heap.size:=by
 obtain⟨D,hD,hown,hat⟩:=h;exact hown.lt
theorem Bx.of_eq {X Y:u} {b:Nat} {cs:Array Value} (h:Bx X b cs) (hs:X.heap.size≤Y.heap.size) (e:Y.heap[b]?=X.heap[b]?):Bx Y b cs:=
 ⟨fun i=>(p (a:=⟨b,i,y⟩) e).trans (h.1 i),fun i=>(World.frozen?_of_block (a:=⟨b,i,y⟩) e).trans (h.2.1 i),Nat.lt_of_lt_of_le h.2.2 hs⟩
theorem Bx.grown {X w':u} {b:Nat} {cs:Array Value} {row:Option Nat} (h:Bx X b cs) (hg:X.grownBy w' row) (hne:row≠f b):Bx w' b cs:=
 h.of_eq hg.size (hg.block b h.2.2 (fun e=>hne e.symm))
theorem AR {s:Bs} (h:aU ⟨s.toArray⟩=true):s.length≤24:=by
 simp only[aU,Bool.and_eq_true,decide_eq_true_eq] at h;have:=h.1.1.2;simp[ByteArray.size] at this;omega
theorem IY (s:Bs) (w:u) (hT:Lib.Utf8Tabs 6 7 w):Calls d 95 #[A ⟨s.toArray⟩] w (aW (.int .i64 (if aU ⟨s.toArray⟩=true then 0 else 200)) w):=by
 have HW:=hid (Dn ⟨s.toArray⟩ w hT);obtain⟨R,hR⟩:∃R:Int,R=(if aU ⟨s.toArray⟩=true then 0 else 200):=⟨_,rfl⟩;rw[←hR];have HR:=hid hR;clear hT hR;go_enter func95,ntmps95;go_wp2_with fail;refine HW.q.mono ?_;rintro e w1 ⟨rfl,hb⟩;have HB:=hid hb;clear hb
 cases h:aU ⟨s.toArray⟩
 ·have hr:R=200:=by rw[HR.q,h];rfl
  subst hr;clear h;go_wp2_with fail;go_ret;exact⟨rfl,HB.q⟩
 ·have hr:R=0:=by rw[HR.q,h];rfl
  subst hr;clear h;go_wp2_with fail;go_ret;exact⟨rfl,HB.q⟩
def oC (W:u) (b:Nat) (ns:List Bs):Prop:=∃D:DataW Unit,IsMap D∧W.ownsMap d 9 (plainElem d 4) b ns.length D∧(∀s:Bs,D.atKey (.string s) (.lit (.bool false))= .lit (.bool (decide (s∈ns))))∧(∀s:Bs,Maps.has D (.string s)=decide (s∈ns))∧Maps.size D=ns.length
theorem oC.s {W:u} {b:Nat} {ns:List Bs} (h:oC W b ns):qZ W b ns:=let⟨D,h1,h2,h3,_⟩:=h;⟨D,h1,h2,h3⟩
theorem oC.new (w:u):oC (w.alloc (.map #[] 0)) w.heap.size []:=⟨.map [],⟨[],rfl⟩,I _ _ _ _,fun s=>by simp[DataW.atKey],fun s=>rfl,rfl⟩
theorem oC.of_eq {W W':u} {b:Nat} {ns:List Bs} (h:oC W b ns) (e:W'.heap[b]?=W.heap[b]?):oC W' b ns:=by
 obtain⟨D,hD,⟨es,clock,hb,F,hs,hd⟩,hat⟩:=h;exact⟨D,hD,⟨es,clock,e.trans hb,F,hs,hd⟩,hat⟩
theorem oC.lt {W:u} {b:Nat} {ns:List Bs} (h:oC W b ns):b<W.heap.size:=h.s.lt
theorem oC.put {W:u} {b:Nat} {ns:List Bs} (h:oC W b ns) (s:Bs) (hs:s.length≤24) (hn:ns.length<maxLen) (hns:s∉ns):
  ∃w',(Instr.mapUpdate 186 (.map (f b)) (A ⟨s.toArray⟩) (Q true)).run d W= .ok () w'∧oC w' b (ns++[s])∧W.grownBy w' (f b):=by
 obtain⟨D,hD,hown,hat,hhas,hsz⟩:=h;have hkey:keyOf d 9 (A ⟨s.toArray⟩)=f (.string s):=by
  have:=B (P:=d) (k:=9) t (s:=⟨s.toArray⟩) (by unfold maxLen;simp[ByteArray.size];omega)
  simpa using this
 have aeX:=hown.tidy (string_keyed t);obtain⟨w',hrun,r1,r2⟩:=hown.update (string_keyed t) underlying186 hn hkey (plainElem_bool underlying4 true);refine⟨w',hrun,⟨D.put (.string s) (.lit (.bool true)),hD.put _ _,by simpa using r1,fun x=>?_,fun x=>?_,?_⟩,r2⟩
 ·by_cases hx:x=s
  ·subst hx
   rw[atKey_put_same hD (by trivial)];simp
  ·rw[atKey_put_other (by simpa using hx),hat x];simp[hx]
 ·by_cases hx:x=s
  ·subst hx
   rw[has_put_same hD (by trivial)];simp
  ·rw[has_put_other (by simpa using hx),hhas x];simp[hx]
 ·rw[size_put aeX,hhas s,O hns,hsz,List.length_append];rfl
theorem oC.len {W:u} {b:Nat} {ns:List Bs} (h:oC W b ns) (ty:TypeId):(Builtin.len_ #[186] ty #[.map (f b)]).run d W= .ok (.int .i64 (ns.length:Int)) W:=by
 obtain⟨D,_,hown,_,_,hsz⟩:=h;rw[hown.len underlying186,hsz]
theorem Ux (s:Bs) (mb b:Nat) (ns:List Bs) (w:u) (hx:Bx w mb #[.map (f b)]) (hm:oC w b ns) (hs:s.length≤24) (hl:ns.length≤300) (hsn:s∉ns):
  Calls d 277 #[A ⟨s.toArray⟩,.pointer (f ⟨mb,0,y⟩)] w fun e w'=>e= .returned (Q true)∧oC w' b (ns++[s])∧w.grownBy w' (f b):=by
 have hlk:=hm.s.look s hs;rw[O hsn] at hlk;obtain⟨w3,hput,rM,hg3⟩:=hm.put s hs (by unfold maxLen;omega) hsn;have hc:=hx.1;have HM:=hid (⟨rM,hg3⟩:_∧_);clear hm hsn rM hg3;go_enter func277,ntmps277;go_wp2_with fail;go_ret;exact⟨rfl,HM.q.1,HM.q.2⟩
attribute [local go_sem] Oper.semAt_some Oper.semAt_none wide_round
theorem YT:∀args w,(callFunc 276 args).run d w= .ok (.enter 276 args) w:=enters_of func276 au rfl
def Xu (L:List Bs) (i:Nat) (args:Array Value) (_:u):Prop:=∃s,L[i]?=f s∧args=#[.int .i64 ((i+1:Nat):Int),A ⟨s.toArray⟩]
theorem Uy {α:Type} {X Y:u} {k:Nat} {enc:α→List Value} {a:Option Addr} {n c:Nat} {xs:List α} (h:Row X k enc a n c xs) (hb:∀g,(Value.slice a n c).ownBlock=f g→Y.heap[g]?=X.heap[g]?):Row Y k enc a n c xs:=
 ⟨h.1,h.2.1,h.2.2.1,h.2.2.2.1,fun i x hx=>by
  obtain⟨b,o,rfl,hc⟩:=h.2.2.2.2 i x hx;exact⟨b,o,rfl,fun j v hv=>(p (a:=⟨b,o+i*k+j,y⟩) (hb b rfl)).trans (hc j v hv)⟩⟩
theorem Oq {L:List Bs} {i:Nat} {s:Bs} (hn:L.Nodup) (hx:L[i]?=f s):s∉L.take i:=fun hm=>by
 obtain⟨j,hj⟩:=List.getElem?_of_mem hm;have hji:j<i:=by have:=(C.1 hj).1;rw[H] at this;omega
 rw[List.getElem?_take_of_lt hji] at hj;obtain⟨h1,e1⟩:=C.1 hj;obtain⟨h2,e2⟩:=C.1 hx;exact List.pairwise_iff_getElem.1 hn j i h1 h2 hji (e1.trans e2.symm)
theorem Gb {n i:Nat} {z:Int} (hz:z=((i+1:Nat):Int)) (h:i<n):n - (RowKit.intOf (.int .i64 z)).toNat<n - (RowKit.intOf (.int .i64 (i:Int))).toNat:=by
 subst hz;show n - (((i+1:Nat):Int)).toNat<n - ((i:Int)).toNat;rw[Int.toNat_natCast,Int.toNat_natCast];omega
structure NbI (L:List Bs) (a:Option Addr) (c sb m0 i:Nat) (X:u):Prop where
 m:oC X m0 (L.take i)
 x:Bx X (m0+1) #[.map (f m0)]
 s:Bx X sb #[M a L.length c]
 r:Row X 1 encStr a L.length c L
theorem Ih (L:List Bs) (a:Option Addr) (c sb:Nat) (D:Nat→Prop) (W:u) (hr:Row W 1 encStr a L.length c L) (hsb:Bx W sb #[M a L.length c])
  (hDw:∀i,i<W.heap.size→((f i=(Value.slice a L.length c).ownBlock∧0<L.length)∨i=sb)→D i) (hD0:D W.heap.size) (hD1:D (W.heap.size+1)) (hL:L.length≤300) (hw:∀s∈L,s.length≤24) (hn:L.Nodup):
  Iter d 276 #[.pointer (f ⟨sb,0,y⟩)] (Xu L) 2 D (E L.length) W:=by
 intro n l J Jx hJ hJx hY h0;refine callsIn_of_wp func276 rfl G ?_ rfl;simp only[ntmps276,List.size_toArray,List.length_cons,List.length_nil,Nat.reduceAdd,Nat.reduceSub,Array.replicate_succ,Array.replicate_zero,List.push_toArray,List.append_toArray,List.nil_append,List.cons_append];have hmm:= @run_makeMap d;have je:=av (av (Below.refl W.heap.size W) (.map #[] 0)) (.cells #[.map (f W.heap.size)] 186);have hc:=(hsb.keep je).1;have oN:Hid (NbI L a c sb W.heap.size 0 ((W.alloc (.map #[] 0)).alloc (.cells #[.map (f W.heap.size)] 186))):=hid
  ⟨by rw[List.take_zero];exact(oC.new W).of_eq (Below.heap_alloc _ _ _ ak),by have:=Bx.new (W.alloc (.map #[] 0)) #[.map (f W.heap.size)] 186;rw[World.size_alloc] at this;exact this,hsb.keep je,hr.below je rfl⟩
 have hj0:=hJ _ _ _ h0 (.of_below je (fun i _ hi=>hi));have HR:=hid hr;have HJ0:=hid hj0;have HJ:=hid hJ;have HY:=hid hY;have MI:=hid hDw;have HD:=hid (⟨hD0,hD1⟩:_∧_);have HL:=hid hL;have HW:=hid hw;have Ey:=hid hn;have hsl:=hsb.2.2;clear hr hsb hJ hY h0 je hj0 hDw hD0 hD1 hL hw hn hJx
 gi_wp2
 gi_loopw [10] (fun v wr=>∃i:Nat,v= .int .i64 i∧i≤L.length∧J (E i) wr∧NbI L a c sb W.heap.size i wr) (fun v _=>L.length - (RowKit.intOf v).toNat)
 case atStart=>exact⟨0,rfl,Nat.zero_le _,HJ0.q,oN.q⟩
 case round=>
  obtain⟨i,rfl,hi,hj,hI⟩:=hrel;by_cases hlt:i<L.length
  ·obtain⟨s,b,o,hx,rfl,hc'⟩:=hI.r.at_ hlt
   have h0:=hc' 0 _ rfl;simp only[Nat.mul_one,Nat.add_zero] at h0;have hcs:=hI.s.1;have hcx:=hI.x.1;have hbW:b<W.heap.size:=by
    obtain⟨_,b',o',_,hab,hcW⟩:=HR.q.at_ hlt
    cases hab
    exact World.block_lt_of_cell? W _ (hcW 0 _ rfl)
   have htk:L.take i++[s]=L.take (i+1):=by rw[List.take_add_one,hx];rfl
   have HI:=hid hI;have HJI:=hid hj;have HX:=hid hx;have bK:=hid hbW;have HTK:=hid htk;have HWI:Hid (wrap64 ((i:Int)+1)=((i+1:Nat):Int)):=hid (by have:=HL.q;unfold wrap64;omega);have HSL:=hid hsl;clear hI hj hx hc' hc hbW htk
   gi_wp2
   refine Dp 99 [(0,0),(1,0),(2,0),(3,0),(4,0),(5,2),(6,0),(7,0),(8,0),(10,0),(11,0),(12,0),(13,0),(9,2),(14,2),(15,0),(16,0)] (fun _=>True) (fun X=>X.cell? ⟨sb,0,y⟩=f (M (f ⟨b,o,y⟩) L.length c)∧X.cell? ⟨b,o+i,y⟩=f (A ⟨s.toArray⟩)∧X.cell? ⟨W.heap.size+1,0,y⟩=f (.map (f W.heap.size))) au au (trivial) (⟨hcs 0,h0,hcx 0⟩) ?_;refine qY ?_;refine Jr rfl rfl (fun K hK=>?_);refine⟨fun _ _=>G,?_⟩;go_simp;refine⟨fun h=>(by cases h),?_⟩;refine(callsIn_wide.2 (Ux s (W.heap.size+1) W.heap.size (L.take i) wr.drew HI.q.x (HI.q.m.of_eq rfl) (HW.q s (List.mem_of_getElem? HX.q)) (by rw[H];have:=HL.q;omega) (Oq Ey.q HX.q))).mono ?_;rintro e w3 ⟨rfl,rM,hg3⟩;rw[HTK.q] at rM;have jM:=hid (⟨hg3.cell (hcs 0) (by have:=HSL.q;simp;omega),hg3.cell h0 (by have:=bK.q;simp;omega),hg3.cell (hcx 0) ak⟩:w3.cell? ⟨sb,0,y⟩=f (M (f ⟨b,o,y⟩) L.length c)∧w3.cell? ⟨b,o+i,y⟩=f (A ⟨s.toArray⟩)∧w3.cell? ⟨W.heap.size+1,0,y⟩=f (.map (f W.heap.size)));have oJ:=hid rM;have jZ:=hid hg3;refine hK _ _ ⟨G,jM.q⟩ ?_;clear hK K rM hg3;refine qY ?_;refine Jr rfl rfl (fun K hK=>?_);refine⟨fun _ _=>G,?_⟩;have hln:=oJ.q.len;have hll:(L.take (i+1)).length=i+1:=by rw[H];omega
   rw[hll] at hln;go_simp;refine hK _ _ ⟨G,jM.q⟩ ?_;clear hK K hln hll;refine Jr rfl rfl (fun K hK=>?_);have hj3:=HJ.q _ _ _ HJI.q (⟨jZ.q.os,jZ.q.tape,jZ.q.output,jZ.q.size,fun k hk hl=>jZ.q.block k hl (by intro e;injection e with e;omega)⟩:Same (fun i=>i<W.heap.size∨W.heap.size+2≤i) wr w3);have hpx:E i++[i]<+:E L.length:=by
    rw[←N];exact List.prefix_iff_eq_take.2 (by rw[List.length_range,List.take_range,Nat.min_eq_left hlt])
   obtain⟨fn,tmps,assign,body,hy,hR⟩:=HY.q (E i) i #[.int .i64 ((i:Int)+1),A ⟨s.toArray⟩] w3 hj3 hpx ⟨s,HX.q,by simp⟩ (by have:=HI.q.x.2.2;have h2:=jZ.q.size;have h3:wr.drew.heap.size=wr.heap.size:=rfl;omega) (n - 1);have HPX:=hid hpx;clear hj3 hpx;refine⟨fun _ _=>G,?_⟩;go_simp;refine⟨fun h=>(by cases h),?_⟩;refine hR.mono ?_;rintro e W' (⟨rfl,hJ',hk⟩|⟨rfl,AZ,hk⟩)
   ·skip
    have HKK:=hid hk;have HJ2:=hid hJ';clear hR hy;have hkk:=hk.2;have hz3:wr.heap.size≤w3.heap.size:=jZ.q.size;have MJ:=HI.q.x.2.2;have iG:=hid (⟨(p (a:=⟨sb,0,y⟩) (hkk sb (MI.q sb HSL.q (.inr rfl)) (by have:=HSL.q;omega))).trans jM.q.1,(p (a:=⟨b,o+i,y⟩) (hkk b (MI.q b bK.q (.inl ⟨rfl,by omega⟩)) (by have:=bK.q;omega))).trans jM.q.2.1,(p (a:=⟨W.heap.size+1,0,y⟩) (hkk (W.heap.size+1) HD.q.2 ah)).trans jM.q.2.2⟩:W'.cell? ⟨sb,0,y⟩=f (M (f ⟨b,o,y⟩) L.length c)∧W'.cell? ⟨b,o+i,y⟩=f (A ⟨s.toArray⟩)∧W'.cell? ⟨W.heap.size+1,0,y⟩=f (.map (f W.heap.size)));refine hK _ _ ⟨G,iG.q⟩ ?_;clear hK K hk hkk hz3 MJ hJ';refine qY ?_;refine Js ?_
    gi_wp2
    go_roundw
    case rel=>
     have hz3:wr.heap.size≤w3.heap.size:=jZ.q.size;have MJ:=HI.q.x.2.2;refine⟨i+1,congrArg (Value.int .i64) HWI.q,by omega,by rw[N];exact HJ2.q,⟨oJ.q.of_eq (HKK.q.2 W.heap.size HD.q.1 ah),?_,?_,?_⟩⟩
     ·exact((HI.q.x.of_eq jZ.q.size (jZ.q.block _ HI.q.x.2.2 ak)).of_eq HKK.q.1 (HKK.q.2 (W.heap.size+1) HD.q.2 ah))
     ·exact((HI.q.s.of_eq jZ.q.size (jZ.q.block _ HI.q.s.2.2 (by have:=HSL.q;simp;omega))).of_eq HKK.q.1 (HKK.q.2 _ (MI.q sb HSL.q (.inr rfl)) (by have:=HSL.q;omega)))
     ·exact Uy HI.q.r (fun g hg=>by have hbg:f b=f g:=hg;injection hbg with hbg;subst hbg;exact(HKK.q.2 _ (MI.q b bK.q (.inl ⟨rfl,by omega⟩)) (by have:=bK.q;omega)).trans (jZ.q.block _ (by have:=bK.q;have:=HI.q.x.2.2;show _<wr.heap.size;omega) (by have:=bK.q;simp;omega)))
    case measure=>exact Gb HWI.q hlt
   ·skip
    clear hR hy;have hkk:=hk.2;have hz3:wr.heap.size≤w3.heap.size:=jZ.q.size;have MJ:=HI.q.x.2.2;have iG:=hid (⟨(p (a:=⟨sb,0,y⟩) (hkk sb (MI.q sb HSL.q (.inr rfl)) (by have:=HSL.q;omega))).trans jM.q.1,(p (a:=⟨b,o+i,y⟩) (hkk b (MI.q b bK.q (.inl ⟨rfl,by omega⟩)) (by have:=bK.q;omega))).trans jM.q.2.1,(p (a:=⟨W.heap.size+1,0,y⟩) (hkk (W.heap.size+1) HD.q.2 ah)).trans jM.q.2.2⟩:W'.cell? ⟨sb,0,y⟩=f (M (f ⟨b,o,y⟩) L.length c)∧W'.cell? ⟨b,o+i,y⟩=f (A ⟨s.toArray⟩)∧W'.cell? ⟨W.heap.size+1,0,y⟩=f (.map (f W.heap.size)));have yX:=hid AZ;refine hK _ _ ⟨G,iG.q⟩ ?_;clear hK K hk hkk hz3 MJ AZ;refine qY ?_;refine Js ?_
    gi_wp2
    refine bodyPost_ret (results_none rfl _ _ _) rfl ?_;exact⟨_,rfl,.inr ⟨E i++[i],HPX.q,yX.q⟩⟩
  ·skip
   have hie:i=L.length:=by omega
   subst hie;have HJI:=hid hj;clear hI hj hc
   gi_wp2
   go_end0
   exact⟨_,rfl,.inl HJI.q⟩
end Yd
namespace Yd
open Go Go.RowKit Go.Proofs Go.Maps Tryz
open Below renaming heap_setCell→d,refl→r
open Go.Value renaming slice→f
open World renaming size_alloc→g,setCell→j
attribute [local go_sem] Oper.semAt_some
theorem LD (a:Option Addr) (n c:Nat) (w:World):Calls Tryz.prog 267 #[f a n c] w fun e w'=>e= .returned (.func (.func 276) #[] #[.pointer (some ⟨w.heap.size,0,none⟩)])∧w'=w.alloc (.cells #[f a n c] 22):=by
 go_enter func267,ntmps267;go_wp2_with fail;go_ret;exact⟨rfl,rfl⟩
theorem Uz {pre:List Nat} {x n:Nat} (h:pre++[x]<+:List.range n):x=pre.length∧x<n:=by
 obtain⟨t,ht⟩:=h;have h1:(List.range n)[pre.length]?=some x:=by rw[←ht];simp
 obtain⟨h2,h3⟩:=List.getElem?_eq_some_iff.1 h1;rw[List.getElem_range] at h3;rw[List.length_range] at h2;omega
structure zu (L:List Bs):Prop where
 w:∀s∈L,aU ⟨s.toArray⟩=true
 n:L.Nodup
 l:L.length≤300
theorem El (L:List Bs) (a:Option Addr) (c:Nat) (w:World) (hr:Row w 1 encStr a L.length c L) (hL:zu L) (hT:Lib.Utf8Tabs 6 7 w):
  Calls Tryz.prog 254 #[.agg #[f a L.length c]] w (aW (.int .i64 0) w):=by
 refine(callsIn_wide (n:=3)).1 ?_;refine callsIn_of_wp_marks func254 rfl trivial ?_ rfl;simp only[ntmps254,List.size_toArray,List.length_cons,List.length_nil,Nat.reduceAdd,Nat.reduceSub,Array.replicate_succ,Array.replicate_zero,List.push_toArray,List.append_toArray,List.nil_append,List.cons_append];refine wpIn_wide.2 ?_;go_wp2_with fail
 go_step3
 go_wp2_with fail
 go_step3
 go_wp2_with (go_at_call 267;refine(LD _ _ _ _).mono ?_;rintro e w' ⟨rfl,rfl⟩)
 obtain⟨V,Jt⟩:∃V,V=((w.alloc (.cells #[f a L.length c] 91)).alloc (.cells #[.int .i64 0] 3)).alloc (.cells #[f a L.length c] 22):=⟨_,rfl⟩;rw[show w.heap.size+1+1=w.heap.size+2 from rfl,←Jt];have wF:V.heap.size=w.heap.size+3:=by rw[Jt];simp
 have A8:Below w.heap.size w V:=by rw[Jt];exact av (av (av (r _ _) _) _) _
 have pu:Bx V w.heap.size #[f a L.length c]:=by rw[Jt];exact((Bx.new w _ _).alloc _).alloc _
 have hV1:Bx V (w.heap.size+1) #[.int .i64 0]:=by
  rw[Jt];have:=(Bx.new (w.alloc (.cells #[f a L.length c] 91)) #[.int .i64 0] 3).alloc (.cells #[f a L.length c] 22);rw[g] at this;exact this
 have hV2:Bx V (w.heap.size+2) #[f a L.length c]:=by
  rw[Jt];have:=Bx.new ((w.alloc (.cells #[f a L.length c] 91)).alloc (.cells #[.int .i64 0] 3)) #[f a L.length c] 22;rw[g,g] at this;exact this
 clear Jt;have hrb:∀i,some i=(Value.slice a L.length c).ownBlock→0<L.length→i<w.heap.size:=fun i hi h0=>by
  obtain⟨_,b,o,_,rfl,hc⟩:=hr.at_ h0;have h1:some i=some b:=hi;injection h1 with h1;subst h1;exact World.block_lt_of_cell? w _ (hc 0 _ rfl)
 refine wpIn_wide.1 (Ga (n:=3) (gf:=276) (lb:=#[.pointer (some ⟨w.heap.size+2,0,none⟩)]) (by simp[go_sem]) YT
  (qD:=Xu L) (k:=2) (D:=fun i=>i<w.heap.size∨i=w.heap.size∨i=w.heap.size+2∨i=w.heap.size+5∨i=w.heap.size+6) (xs:=List.range L.length)
  (fun W hW hWs=>Ih L a c (w.heap.size+2) _ W ((hr.below A8 rfl).below hW rfl) (hV2.keep hW) (fun i hi hor=>by
   rcases hor with hor|rfl
   ·exact .inl (hrb i hor.1 hor.2)
   ·exact .inr (.inr (.inl rfl))) (.inr (.inr (.inr (.inl ah)))) (.inr (.inr (.inr (.inr ah)))) hL.l (fun s hs=>AR (hL.w s hs)) hL.n) ah
  (fun x args X hx=>by obtain⟨_,_,rfl⟩:=hx;rfl)
  (fun pre X=>Below w.heap.size w X∧Bx X w.heap.size #[f a L.length c]∧Bx X (w.heap.size+1) #[.int .i64 pre.length])
  (fun c pre X=>False)
  (fun pre X Y hh k=>⟨k.below hh.1 (fun i hi=> .inl ah) hh.1.size,k.bx hh.2.1 (.inl ah),k.bx hh.2.2 (.inl ah)⟩)
  (fun c pre X Y hh k=>hh.elim)
  ⟨A8,pu,hV1⟩ ?round ?done ?stop)
 case stop=>
  rintro c pre X hpre hh hdef;exact hh.elim
 case done=>
  rintro X ⟨hb,h0,h1⟩ hdef;rw[List.length_range] at h1;have hc:=h0.1;have hc1:=h1.1;have hl3:decide ((L.length:Int)>300)=false:=decide_eq_false (by have:=hL.l;omega);have hl4:decide (300<(L.length:Int))=false:=decide_eq_false (by have:=hL.l;omega);have hl5:decide (300<L.length)=false:=decide_eq_false (by have:=hL.l;omega);have hne:((L.length:Int)!=(L.length:Int))=false:=by simp
  simp only[Exit.inBlock,Exit.then];go_wp2_with fail;refine⟨by simp,.inl ⟨_,_,rfl,run_takeDeferred hdef,?_⟩⟩;refine⟨_,results_tmp rfl _ _ _,?_,(Same.putObj (A:=fun i=>i<w.heap.size) X _ ah).below hb (fun i hi=>hi) hb.size⟩
  rfl
 case round=>
  rintro pre x args X ⟨hb,h0,h1⟩ hpre ⟨s,hs,rfl⟩ hsz m;obtain⟨hxl,hxn⟩:=Uz hpre
  gi_wp2
  refine⟨r _ _,fun X2 hk=>?_⟩;have hb2:Below w.heap.size w X2:=hk.below hb (fun i hi=>by omega) hb.size;have h02:=hk.bx h0 ah;have h12:=hk.bx h1 ah;have hwd:=hL.w s (List.mem_of_getElem? hs);have xK:=hid (IY s X2 (Utf8Tabs_below hT hb2));rw[if_pos hwd] at xK;have HB:=hid hb2;have H0:=hid h02;have H1:=hid h12;have HK:=hid hk;clear hb2 h02 h12 hk hb h0 h1 hwd
  gi_wp2
  refine⟨trivial,fun h=>(by cases h),?_⟩;refine(CallsIn.inRound _ (callsIn_wide.2 xK.q)).mono ?_;rintro e W3 ⟨rfl,hb3⟩;have HB3:=hid (HB.q.bq hb3);have QL:=hid (H0.q.keep hb3);have Ew:=hid (H1.q.keep hb3);have UA:=hid hb3;have h13:=Ew.q.1;have f13:=Ew.q.2.1;have HZ:=hid (show V.heap.size+3≤X2.heap.size by have:=HK.q.size;omega);clear hb3
  gi_wp2
  have hll:(((pre++[x]).length:Nat):Int)=(pre.length:Int)+1:=by rw[List.length_append];rfl
  refine⟨⟨(d _ _ _ _ (by simp;omega)).trans (UA.q.block _ (by have:=HZ.q;omega)),(d _ _ _ _ (by simp;omega)).trans (UA.q.block _ (by have:=HZ.q;omega))⟩,
   (aP.of_below UA.q (fun i _ hi=>hi)).trans ⟨by simp[j],fun i hi _=>d _ _ _ _ (by simp;omega)⟩,HB3.q.setCell (p:=⟨w.heap.size+1,0,none⟩) ak _,QL.q.of_eq (by simp[j]) (d _ _ _ _ ak),?_⟩
  rw[hll];exact Ew.q.set1 _
end Yd
namespace Yd
open Go Go.RowKit Go.Proofs Go.Maps Tryz
def A9 (L:List Bs) (s:Bs):Int:=if s∈L then(L.idxOf s:Int) else -1
theorem QN (L:List Bs) (a:Option Addr) (c:Nat) (s:Bs) (w:World) (hr:Row w 1 encStr a L.length c L):
  Calls Tryz.prog 268 #[.slice a L.length c,.string ⟨s.toArray⟩] w (aW (.int .i64 (A9 L s)) w):=by
 have hle:=hr.le;have HR:=hid hr;obtain⟨R,hR⟩:∃R,R=A9 L s:=⟨_,rfl⟩;rw[←hR];have HRR:=hid hR;clear hr hR;go_enter func268,ntmps268;go_wp2_with fail
 go_loopw [8] (fun v wr=>∃i:Nat,v= .int .i64 i∧i≤L.length∧s∉L.take i∧wr=w) (fun v _=>L.length - (RowKit.intOf v).toNat)
 case atStart=>exact⟨0,rfl,Nat.zero_le _,by simp,rfl⟩
 case round=>
  obtain⟨i,rfl,hi,hni,rfl⟩:=hrel;by_cases hlt:i<L.length
  ·obtain⟨x,b,o,hx,rfl,hc⟩:=HR.q.at_ hlt
   have h0:=hc 0 _ rfl;simp only[Nat.mul_one,Nat.add_zero] at h0;have HNI:=hid hni;have HX:=hid hx;have HWI:Hid (wrap64 ((i:Int)+1)=((i+1:Nat):Int)):=hid (by unfold wrap64;omega);by_cases hq:x=s
   ·subst hq
    have hres:R=(i:Int):=by
     rw[HRR.q];unfold A9;rw[if_pos (List.mem_of_getElem? HX.q)];have hg:=List.getElem?_eq_some_iff.1 HX.q;have h1:L=L.take i++x::L.drop (i+1):=by
      obtain⟨h1,h2⟩:=hg;rw[←h2,List.getElem_cons_drop,List.take_append_drop]
     have h2:(L.take i++x::L.drop (i+1)).idxOf x=i:=by
      rw[List.idxOf_append,if_neg HNI.q];simp[List.length_take];omega
     rw[←h1] at h2;rw[h2]
    subst hres;clear hx hni hc;go_wp2_with fail;go_ret;exact⟨rfl,Below.refl _ _⟩
   ·have hbe:(s==x)=false:=beq_eq_false_iff_ne.2 (Ne.symm hq)
    have HQ:=hid hq;have hnx:s∉L.take (i+1):=by
     rw[List.take_add_one,HX.q];intro hm;rcases List.mem_append.1 hm with hm|hm
     ·exact HNI.q hm
     ·have:s=x:=by simpa using hm
      exact HQ.q this.symm
    have Cz:=hid hnx;clear hx hni hc hq hnx;go_wp2_with fail;go_roundw
    case rel=>exact⟨i+1,by simp,by omega,Cz.q,trivial⟩
    case measure=>exact Gb (z:=(i:Int)+1) ak hlt
  ·have hie:i=L.length:=by omega
   subst hie;have hres:R= -1:=by
    rw[HRR.q];unfold A9;rw[if_neg (by rw[List.take_length] at hni;exact hni)]
   subst hres;clear hni;go_wp2_with fail;go_ret;exact⟨rfl,Below.refl _ _⟩
theorem NY (L:List Bs) (a:Option Addr) (c:Nat) (s:Bs) (w:World) (hr:Row w 1 encStr a L.length c L) (hL:zu L) (hT:Lib.Utf8Tabs 6 7 w):
  Calls Tryz.prog 255 #[.agg #[.slice a L.length c],.string ⟨s.toArray⟩] w (aW (.tuple #[.int .i64 (if s∈L then(L.idxOf s:Int) else 0),.bool (decide (s∈L))]) w):=by
 have hb0:=av (Below.refl w.heap.size w) (.cells #[.slice a L.length c] 91);have HIX:=hid (QN L a c s _ (hr.below hb0 rfl));have HR:=hid hr;have HT:=hid hT;have HL:=hid hL;have HB0:=hid hb0;have HX0:=hid (Bx.new w #[.slice a L.length c] 91);have HF:=hid (fun W (hb:Below w.heap.size w W)=>El L a c W (hr.below hb rfl) hL (Utf8Tabs_below hT hb));obtain⟨A,hA⟩:∃A:Int,A=(if s∈L then(L.idxOf s:Int) else 0):=⟨_,rfl⟩;obtain⟨B,hB⟩:∃B:Bool,B=decide (s∈L):=⟨_,rfl⟩;rw[←hA,←hB];have HA:=hid hA;have yV:=hid hB;clear hb0 hr hT hL hA hB;go_enter func255,ntmps255;go_wp2_with fail;refine HIX.q.mono ?_;rintro e w1 ⟨rfl,hb1⟩;have HB1:=hid (HB0.q.bq hb1);have hx1:=HX0.q.keep hb1;have hc1:=hx1.1;clear hb1;by_cases hm:s∈L
 ·obtain⟨k,hk⟩:∃k,k=L.idxOf s:=⟨_,rfl⟩
  have e1:A9 L s=(k:Int):=by unfold A9;rw[if_pos hm,hk]
  have e2:A=(k:Int):=by rw[HA.q,if_pos hm,hk]
  have e3:B=true:=by rw[yV.q,decide_eq_true hm]
  subst e2 e3;rw[e1];have hd:decide ((k:Int)<0)=false:=decide_eq_false ah;clear e1 hm hk;go_wp2_with fail;refine(HF.q _ HB1.q).mono ?_;rintro e w2 ⟨rfl,hb2⟩;have HB2:=hid (HB1.q.bq hb2);clear hb2 hc1;go_wp2_with fail;refine bodyPost_ret (v:= .tuple #[.int .i64 (k:Int),.bool true]) (by simp[results,results255,go_sem]) rfl ?_;exact⟨rfl,HB2.q⟩
 ·have e1:A9 L s= -1:=by unfold A9;rw[if_neg hm]
  have e2:A=0:=by rw[HA.q,if_neg hm]
  have e3:B=false:=by rw[yV.q,decide_eq_false hm]
  subst e2 e3;rw[e1];clear e1 hm;go_wp2_with fail;refine bodyPost_ret (v:= .tuple #[.int .i64 0,.bool false]) (by simp[results,results255,go_sem]) rfl ?_;exact⟨rfl,HB1.q⟩
end Yd
