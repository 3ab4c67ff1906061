import Derived.Test.YtnhnhmeogckgpaaGreatDoorOwn
import Derived.Test.YtnhnhmeogckgpaaGreatDoorOrdV
import Derived.WalkSpells
set_option linter.all false
set_option maxRecDepth 200000
set_option maxHeartbeats 8000000
namespace Yd
open List renaming take_of_length_le→g,take_add_one→r
open Nat renaming add_zero→B,zero_le→E,mul_one→F
open Go Go.RowKit Go.Proofs Tryz
open Below renaming refl→f
open Go renaming World→C,Calls→D
open RowKit renaming intOf→A
open Tryz renaming prog→u,ntmps14→H,ntmps33→I,func14→J,func33→K
open _root_ renaming decide_eq_false→j,Int→z,Option→G
theorem Xi (a a':G Addr) (n c n' c':Nat) (xs ys:List z) (w:C) (hr:Row w 1 aZ a n c xs) (hr':Row w 1 aZ a' n' c' ys):
  D u 14 #[.slice a n c,.slice a' n' c'] w (bC (.bool (decide (xs=ys))) w):=by
 have hn:=hr.le;have hn':=hr'.le;have HR:=hid hr;have HR':=hid hr';clear hr hr';by_cases hl:n=n'
 ·subst hl
  clear hn';go_enter J,H;go_wp2_with fail
  go_loopw [13] (fun i wr=>∃k:Nat,k≤n∧i= .int .i64 k∧xs.take k=ys.take k∧Below w.heap.size w wr) (fun i _=>n - (A i).toNat)
  case atStart=>exact⟨0,E _,rfl,rfl,f _ _⟩
  case round=>
   obtain⟨k,hk,rfl,hf,hb⟩:=hrel;have HF:=hid hf;clear hf;by_cases hlt:k<n
   ·have hi1:(0:z)≤(k:z):=by omega
    have hi2:(k:z)<(n:z):=by omega
    obtain⟨x,b,o,hx,rfl,hc⟩:=HR.q.at_ hlt;obtain⟨y,b',o',hy,rfl,hc'⟩:=HR'.q.at_ hlt;have h0:=aT hb rfl (hc 0 _ rfl);simp only[F,B] at h0;have xG:=aT hb rfl (hc' 0 _ rfl);simp only[F,B] at xG;have HX:=hid hx;have HY:=hid hy;clear hc hc' hx hy;by_cases he:x=y
    ·subst he
     go_wp2_with fail
     go_quiet (fail)
     go_wp2_with fail;refine⟨⟨k+1,by omega,by go_num,?_,dM hb _⟩,by simp[A];omega⟩;rw[r,r,HF.q,HX.q,HY.q]
    ·have ht:(x==y)=false:=by simpa using he
     have HE:=hid he;clear he;go_wp2_with fail
     go_quiet (fail)
     go_wp2_with fail;go_ret;refine⟨?_,dM hb _⟩;have hne:xs≠ys:=fun e=>HE.q (by have h1:=HX.q;have h2:=HY.q;rw[e,h2] at h1;exact(Option.some.inj h1).symm)
     rw[j hne];rfl
   ·have hkn:k=n:=by omega
    go_wp2_with fail;go_ret;refine⟨?_,hb⟩;have e:xs=ys:=by
     have h:=HF.q
     rwa[g (by rw[HR.q.len];omega),g (by rw[HR'.q.len];omega)] at h
    rw[decide_eq_true e];rfl
 ·have hne:xs≠ys:=fun e=>hl (by rw[←HR.q.len,←HR'.q.len,e])
  have hl':((n:z)==(n':z))=false:=beq_eq_false_iff_ne.2 ah;have HN:=hid hne;clear hne hl;go_enter J,H;go_wp2_with fail;go_ret;refine⟨?_,f _ _⟩;rw[j HN.q];rfl
theorem Xk (a a':G Addr) (n c n' c':Nat) (xs ys:List Bs) (w:C) (hr:Row w 1 encStr a n c xs) (hr':Row w 1 encStr a' n' c' ys):
  D u 33 #[.slice a n c,.slice a' n' c'] w (bC (.bool (decide (xs=ys))) w):=by
 have hn:=hr.le;have hn':=hr'.le;have HR:=hid hr;have HR':=hid hr';clear hr hr';by_cases hl:n=n'
 ·subst hl
  clear hn';go_enter K,I;go_wp2_with fail
  go_loopw [13] (fun i wr=>∃k:Nat,k≤n∧i= .int .i64 k∧xs.take k=ys.take k∧Below w.heap.size w wr) (fun i _=>n - (A i).toNat)
  case atStart=>exact⟨0,E _,rfl,rfl,f _ _⟩
  case round=>
   obtain⟨k,hk,rfl,hf,hb⟩:=hrel;have HF:=hid hf;clear hf;by_cases hlt:k<n
   ·have hi1:(0:z)≤(k:z):=by omega
    have hi2:(k:z)<(n:z):=by omega
    obtain⟨x,b,o,hx,rfl,hc⟩:=HR.q.at_ hlt;obtain⟨y,b',o',hy,rfl,hc'⟩:=HR'.q.at_ hlt;have h0:=aT hb rfl (hc 0 _ rfl);simp only[F,B] at h0;have xG:=aT hb rfl (hc' 0 _ rfl);simp only[F,B] at xG;have HX:=hid hx;have HY:=hid hy;clear hc hc' hx hy;by_cases he:x=y
    ·subst he
     go_wp2_with fail
     go_quiet (fail)
     go_wp2_with fail;refine⟨⟨k+1,by omega,by go_num,?_,dM hb _⟩,by simp[A];omega⟩;rw[r,r,HF.q,HX.q,HY.q]
    ·have ht:(x==y)=false:=by simpa using he
     have HE:=hid he;clear he;go_wp2_with fail
     go_quiet (fail)
     go_wp2_with fail;go_ret;refine⟨?_,dM hb _⟩;have hne:xs≠ys:=fun e=>HE.q (by have h1:=HX.q;have h2:=HY.q;rw[e,h2] at h1;exact(Option.some.inj h1).symm)
     rw[j hne];rfl
   ·have hkn:k=n:=by omega
    go_wp2_with fail;go_ret;refine⟨?_,hb⟩;have e:xs=ys:=by
     have h:=HF.q
     rwa[g (by rw[HR.q.len];omega),g (by rw[HR'.q.len];omega)] at h
    rw[decide_eq_true e];rfl
 ·have hne:xs≠ys:=fun e=>hl (by rw[←HR.q.len,←HR'.q.len,e])
  have hl':((n:z)==(n':z))=false:=beq_eq_false_iff_ne.2 ah;have HN:=hid hne;clear hne hl;go_enter K,I;go_wp2_with fail;go_ret;refine⟨?_,f _ _⟩;rw[j HN.q];rfl
theorem ag9 (a a':G Addr) (n c n' c':Nat) (xs ys:List Wa) (w:C) (hr:Row w 2 fK a n c xs) (hr':Row w 2 fK a' n' c' ys):
  D u 53 #[.slice a n c,.slice a' n' c'] w (bC (.bool (decide (xs=ys))) w):=by
 have hn:=hr.le;have hn':=hr'.le;have HR:=hid hr;have HR':=hid hr';clear hr hr';by_cases hl:n=n'
 ·subst hl
  clear hn';go_enter func53,ntmps53;go_wp2_with fail
  go_loopw [13] (fun i wr=>∃k:Nat,k≤n∧i= .int .i64 k∧xs.take k=ys.take k∧Below w.heap.size w wr) (fun i _=>n - (A i).toNat)
  case atStart=>exact⟨0,E _,rfl,rfl,f _ _⟩
  case round=>
   obtain⟨k,hk,rfl,hf,hb⟩:=hrel;have HF:=hid hf;clear hf;by_cases hlt:k<n
   ·have hi1:(0:z)≤(k:z):=by omega
    have hi2:(k:z)<(n:z):=by omega
    obtain⟨x,b,o,hx,rfl,hc⟩:=HR.q.at_ hlt;obtain⟨y,b',o',hy,rfl,hc'⟩:=HR'.q.at_ hlt;have h0:=aT hb rfl (hc 0 _ rfl);have h1:=aT hb rfl (hc 1 _ rfl);simp only[B] at h0;have xG:=aT hb rfl (hc' 0 _ rfl);have Ya:=aT hb rfl (hc' 1 _ rfl);simp only[B] at xG;have HX:=hid hx;have HY:=hid hy;clear hc hc' hx hy;by_cases he:x=y
    ·subst he
     go_wp2_with fail
     go_quiet (fail)
     go_wp2_with fail;refine⟨⟨k+1,by omega,by go_num,?_,dM hb _⟩,by simp[A];omega⟩;rw[r,r,HF.q,HX.q,HY.q]
    ·have ht:=aaL x y;rw[j he] at ht
     have HE:=hid he;clear he;go_wp2_with fail
     go_quiet (fail)
     go_wp2_with fail;go_ret;refine⟨?_,dM hb _⟩;have hne:xs≠ys:=fun e=>HE.q (by have h1:=HX.q;have h2:=HY.q;rw[e,h2] at h1;exact(Option.some.inj h1).symm)
     rw[j hne];rfl
   ·have hkn:k=n:=by omega
    go_wp2_with fail;go_ret;refine⟨?_,hb⟩;have e:xs=ys:=by
     have h:=HF.q
     rwa[g (by rw[HR.q.len];omega),g (by rw[HR'.q.len];omega)] at h
    rw[decide_eq_true e];rfl
 ·have hne:xs≠ys:=fun e=>hl (by rw[←HR.q.len,←HR'.q.len,e])
  have hl':((n:z)==(n':z))=false:=beq_eq_false_iff_ne.2 ah;have HN:=hid hne;clear hne hl;go_enter func53,ntmps53;go_wp2_with fail;go_ret;refine⟨?_,f _ _⟩;rw[j HN.q];rfl
theorem ahg (a a':G Addr) (n c n' c':Nat) (xs ys:List Sn) (w:C) (hr:Row w 3 dB a n c xs) (hr':Row w 3 dB a' n' c' ys):
  D u 122 #[.slice a n c,.slice a' n' c'] w (bC (.bool (decide (xs=ys))) w):=by
 have hn:=hr.le;have hn':=hr'.le;have HR:=hid hr;have HR':=hid hr';clear hr hr';by_cases hl:n=n'
 ·subst hl
  clear hn';go_enter func122,ntmps122;go_wp2_with fail
  go_loopw [13] (fun i wr=>∃k:Nat,k≤n∧i= .int .i64 k∧xs.take k=ys.take k∧Below w.heap.size w wr) (fun i _=>n - (A i).toNat)
  case atStart=>exact⟨0,E _,rfl,rfl,f _ _⟩
  case round=>
   obtain⟨k,hk,rfl,hf,hb⟩:=hrel;have HF:=hid hf;clear hf;by_cases hlt:k<n
   ·have hi1:(0:z)≤(k:z):=by omega
    have hi2:(k:z)<(n:z):=by omega
    obtain⟨x,b,o,hx,rfl,hc⟩:=HR.q.at_ hlt;obtain⟨y,b',o',hy,rfl,hc'⟩:=HR'.q.at_ hlt;have h0:=aT hb rfl (hc 0 _ rfl);have h1:=aT hb rfl (hc 1 _ rfl);have h2:=aT hb rfl (hc 2 _ rfl);simp only[B] at h0;have xG:=aT hb rfl (hc' 0 _ rfl);have Ya:=aT hb rfl (hc' 1 _ rfl);have h'2:=aT hb rfl (hc' 2 _ rfl);simp only[B] at xG;have HX:=hid hx;have HY:=hid hy;clear hc hc' hx hy;by_cases he:x=y
    ·subst he
     go_wp2_with fail
     go_quiet (fail)
     go_wp2_with fail;refine⟨⟨k+1,by omega,by go_num,?_,dM hb _⟩,by simp[A];omega⟩;rw[r,r,HF.q,HX.q,HY.q]
    ·have ht:=aaM x y;rw[j he] at ht
     have HE:=hid he;clear he;go_wp2_with fail
     go_quiet (fail)
     go_wp2_with fail;go_ret;refine⟨?_,dM hb _⟩;have hne:xs≠ys:=fun e=>HE.q (by have h1:=HX.q;have h2:=HY.q;rw[e,h2] at h1;exact(Option.some.inj h1).symm)
     rw[j hne];rfl
   ·have hkn:k=n:=by omega
    go_wp2_with fail;go_ret;refine⟨?_,hb⟩;have e:xs=ys:=by
     have h:=HF.q
     rwa[g (by rw[HR.q.len];omega),g (by rw[HR'.q.len];omega)] at h
    rw[decide_eq_true e];rfl
 ·have hne:xs≠ys:=fun e=>hl (by rw[←HR.q.len,←HR'.q.len,e])
  have hl':((n:z)==(n':z))=false:=beq_eq_false_iff_ne.2 ah;have HN:=hid hne;clear hne hl;go_enter func122,ntmps122;go_wp2_with fail;go_ret;refine⟨?_,f _ _⟩;rw[j HN.q];rfl
structure Sl where
 a:G Addr
 n:Nat
 c:Nat
@[reducible] def Sl.v (s:Sl):Value:= .slice s.a s.n s.c
structure HC where
 t:Sl
 s:Sl
 o:Sl
 p:Sl
 e:Sl
 d:Sl
 m:Sl
 w:Sl
@[reducible] def fJ (h:HC):Value:= .agg #[h.t.v,h.s.v,h.o.v,h.p.v,h.e.v,h.d.v,h.m.v,h.w.v]
@[reducible] def aA (h:HC):Array Value:=#[h.t.v,h.s.v,h.o.v,h.p.v,h.e.v,h.d.v,h.m.v,h.w.v]
theorem jH (h:HC) (w:C):D u 48 #[fJ h] w (bC (.agg #[h.t.v,h.s.v,h.o.v,h.p.v]) w):=by
 go_enter func48,ntmps48
 go_wp2
 refine bodyPost_ret (v:= .agg #[h.t.v,h.s.v,h.o.v,h.p.v]) (by simp[results,results48,go_sem]) rfl ⟨rfl,?_⟩;exact((f _ _).alloc ak _).alloc ak _
def aV (n:z) (many:Nat):Bool:=decide (0≤n) && decide (n<many)
theorem zx {n:z} {m:Nat} (h:n<0):aV n m=false:=by simp[aV,Int.not_le.2 h]
theorem zy {n:z} {m:Nat} (h:0≤n):aV n m=decide (n<m):=by simp[aV,h]
theorem acA (h:HC) (w:C):(Instr.index 101 (.agg #[h.t.v,h.s.v,h.o.v,h.p.v]) (.int .i64 0)).run u w= .ok h.t.v w:=au
theorem Jk (h:HC) (n:z) (w:C):D u 127 #[fJ h,.int .i64 0,.int .i64 n] w (bC (.bool (aV n h.t.n)) w):=by
 have hix:=acA h;by_cases hn:0≤n
 ·go_enter func127,ntmps127
  go_wp2_with (go_at_call 48;refine(jH h _).mono ?_;rintro e w' ⟨rfl,hb⟩)
  go_ret;refine⟨by rw[zy hn];rfl,((f _ _).alloc ak _).trans (hb.mono ak)⟩
 ·go_enter func127,ntmps127
  go_wp2_with (go_at_call 48;refine(jH h _).mono ?_;rintro e w' ⟨rfl,hb⟩)
  go_ret;exact⟨by rw[zx hn];rfl,(f _ _).alloc ak _⟩
theorem acB (h:HC) (w:C):(Instr.index 101 (.agg #[h.t.v,h.s.v,h.o.v,h.p.v]) (.int .i64 1)).run u w= .ok h.s.v w:=au
theorem Yb (h:HC) (n:z) (w:C):D u 127 #[fJ h,.int .i64 1,.int .i64 n] w (bC (.bool (aV n h.s.n)) w):=by
 have hix:=acB h;by_cases hn:0≤n
 ·go_enter func127,ntmps127
  go_wp2_with (go_at_call 48;refine(jH h _).mono ?_;rintro e w' ⟨rfl,hb⟩)
  go_ret;refine⟨by rw[zy hn];rfl,((f _ _).alloc ak _).trans (hb.mono ak)⟩
 ·go_enter func127,ntmps127
  go_wp2_with (go_at_call 48;refine(jH h _).mono ?_;rintro e w' ⟨rfl,hb⟩)
  go_ret;exact⟨by rw[zx hn];rfl,(f _ _).alloc ak _⟩
theorem acC (h:HC) (w:C):(Instr.index 101 (.agg #[h.t.v,h.s.v,h.o.v,h.p.v]) (.int .i64 2)).run u w= .ok h.o.v w:=au
theorem F9 (h:HC) (n:z) (w:C):D u 127 #[fJ h,.int .i64 2,.int .i64 n] w (bC (.bool (aV n h.o.n)) w):=by
 have hix:=acC h;by_cases hn:0≤n
 ·go_enter func127,ntmps127
  go_wp2_with (go_at_call 48;refine(jH h _).mono ?_;rintro e w' ⟨rfl,hb⟩)
  go_ret;refine⟨by rw[zy hn];rfl,((f _ _).alloc ak _).trans (hb.mono ak)⟩
 ·go_enter func127,ntmps127
  go_wp2_with (go_at_call 48;refine(jH h _).mono ?_;rintro e w' ⟨rfl,hb⟩)
  go_ret;exact⟨by rw[zx hn];rfl,(f _ _).alloc ak _⟩
theorem acD (h:HC) (w:C):(Instr.index 101 (.agg #[h.t.v,h.s.v,h.o.v,h.p.v]) (.int .i64 3)).run u w= .ok h.p.v w:=au
theorem Xx (h:HC) (n:z) (w:C):D u 127 #[fJ h,.int .i64 3,.int .i64 n] w (bC (.bool (aV n h.p.n)) w):=by
 have hix:=acD h;by_cases hn:0≤n
 ·go_enter func127,ntmps127
  go_wp2_with (go_at_call 48;refine(jH h _).mono ?_;rintro e w' ⟨rfl,hb⟩)
  go_ret;refine⟨by rw[zy hn];rfl,((f _ _).alloc ak _).trans (hb.mono ak)⟩
 ·go_enter func127,ntmps127
  go_wp2_with (go_at_call 48;refine(jH h _).mono ?_;rintro e w' ⟨rfl,hb⟩)
  go_ret;exact⟨by rw[zx hn];rfl,(f _ _).alloc ak _⟩
def fD (l:z):Bool:=decide (1≤l) && decide (l≤4)
def yG (l:z):z:=if fD l=true then 0 else 190
theorem FP {l:z} (h:fD l=true):yG l=0:=by simp[yG,h]
theorem Cr {l:z} (h:fD l=false):yG l=190:=by simp[yG,h]
theorem zK (l:z) (w:C):D u 140 #[.int .i64 l] w (bC (.int .i64 (yG l)) w):=by
 by_cases h1:1≤l
 ·by_cases h2:l≤4
  ·go_enter func140,ntmps140
   go_wp2
   go_ret;exact⟨by rw[FP (by simp[fD,h1,h2])];rfl,f _ _⟩
  ·go_enter func140,ntmps140
   go_wp2
   go_ret;exact⟨by rw[Cr (by simp[fD];omega)];rfl,f _ _⟩
 ·go_enter func140,ntmps140
  go_wp2
  go_ret;exact⟨by rw[Cr (by simp[fD];omega)];rfl,f _ _⟩
end Yd
