import Derived.Test.YtnhnhmeogckgpaaGreatDoorTInfo
import Derived.Test.YtnhnhmeogckgpaaGreatDoorTOrdV
import Derived.WalkSpells
set_option linter.all false
set_option maxRecDepth 200000
set_option maxHeartbeats 8000000
namespace Yd
open List renaming take_of_length_le→g,take_add_one→r
open Nat renaming add_zero→B,zero_le→F,mul_one→J
open Go Go.RowKit Go.Proofs Tryz
open Below renaming refl→f
open Go renaming World→D,Calls→G
open Go.Value renaming slice→E,bool→I
open RowKit renaming intOf→A
open Tryz renaming prog→u,ntmps14→L,ntmps33→M,func14→N,func33→O
open Yd renaming hid→C
open _root_ renaming decide_eq_false→j,Int→z,Nat→H,Option→K
theorem Iq (a a':K Addr) (n c n' c':H) (xs ys:List z) (w:D) (hr:Row w 1 aQ a n c xs) (hr':Row w 1 aQ a' n' c' ys):
  G u 14 #[E a n c,E a' n' c'] w (aW (I (decide (xs=ys))) w):=by
 have hn:=hr.le;have hn':=hr'.le;have HR:=C hr;have HR':=C hr';clear hr hr';by_cases hl:n=n'
 ·subst hl
  clear hn';go_enter N,L;go_wp2_with fail
  go_loopw [13] (fun i wr=>∃k:H,k≤n∧i= .int .i64 k∧xs.take k=ys.take k∧Below w.heap.size w wr) (fun i _=>n - (A i).toNat)
  case atStart=>exact⟨0,F _,rfl,rfl,f _ _⟩
  case round=>
   obtain⟨k,hk,rfl,hf,hb⟩:=hrel;have HF:=C hf;clear hf;by_cases hlt:k<n
   ·have hi1:(0:z)≤(k:z):=by omega
    have hi2:(k:z)<(n:z):=by omega
    obtain⟨x,b,o,hx,rfl,hc⟩:=HR.q.at_ hlt;obtain⟨y,b',o',hy,rfl,hc'⟩:=HR'.q.at_ hlt;have h0:=aM hb rfl (hc 0 _ rfl);simp only[J,B] at h0;have qz:=aM hb rfl (hc' 0 _ rfl);simp only[J,B] at qz;have HX:=C hx;have HY:=C hy;clear hc hc' hx hy;by_cases he:x=y
    ·subst he
     go_wp2_with fail
     go_quiet (fail)
     go_wp2_with fail;refine⟨⟨k+1,by omega,by go_num,?_,dA hb _⟩,by simp[A];omega⟩;rw[r,r,HF.q,HX.q,HY.q]
    ·have ht:(x==y)=false:=by simpa using he
     have HE:=C he;clear he;go_wp2_with fail
     go_quiet (fail)
     go_wp2_with fail;go_ret;refine⟨?_,dA hb _⟩;have hne:xs≠ys:=fun e=>HE.q (by have h1:=HX.q;have h2:=HY.q;rw[e,h2] at h1;exact(Option.some.inj h1).symm)
     rw[j hne];rfl
   ·have hkn:k=n:=by omega
    go_wp2_with fail;go_ret;refine⟨?_,hb⟩;have e:xs=ys:=by
     have h:=HF.q
     rwa[g (by rw[HR.q.len];omega),g (by rw[HR'.q.len];omega)] at h
    rw[decide_eq_true e];rfl
 ·have hne:xs≠ys:=fun e=>hl (by rw[←HR.q.len,←HR'.q.len,e])
  have hl':((n:z)==(n':z))=false:=beq_eq_false_iff_ne.2 ah;have HN:=C hne;clear hne hl;go_enter N,L;go_wp2_with fail;go_ret;refine⟨?_,f _ _⟩;rw[j HN.q];rfl
theorem OA (a a':K Addr) (n c n' c':H) (xs ys:List Bs) (w:D) (hr:Row w 1 encStr a n c xs) (hr':Row w 1 encStr a' n' c' ys):
  G u 33 #[E a n c,E a' n' c'] w (aW (I (decide (xs=ys))) w):=by
 have hn:=hr.le;have hn':=hr'.le;have HR:=C hr;have HR':=C hr';clear hr hr';by_cases hl:n=n'
 ·subst hl
  clear hn';go_enter O,M;go_wp2_with fail
  go_loopw [13] (fun i wr=>∃k:H,k≤n∧i= .int .i64 k∧xs.take k=ys.take k∧Below w.heap.size w wr) (fun i _=>n - (A i).toNat)
  case atStart=>exact⟨0,F _,rfl,rfl,f _ _⟩
  case round=>
   obtain⟨k,hk,rfl,hf,hb⟩:=hrel;have HF:=C hf;clear hf;by_cases hlt:k<n
   ·have hi1:(0:z)≤(k:z):=by omega
    have hi2:(k:z)<(n:z):=by omega
    obtain⟨x,b,o,hx,rfl,hc⟩:=HR.q.at_ hlt;obtain⟨y,b',o',hy,rfl,hc'⟩:=HR'.q.at_ hlt;have h0:=aM hb rfl (hc 0 _ rfl);simp only[J,B] at h0;have qz:=aM hb rfl (hc' 0 _ rfl);simp only[J,B] at qz;have HX:=C hx;have HY:=C hy;clear hc hc' hx hy;by_cases he:x=y
    ·subst he
     go_wp2_with fail
     go_quiet (fail)
     go_wp2_with fail;refine⟨⟨k+1,by omega,by go_num,?_,dA hb _⟩,by simp[A];omega⟩;rw[r,r,HF.q,HX.q,HY.q]
    ·have ht:(x==y)=false:=by simpa using he
     have HE:=C he;clear he;go_wp2_with fail
     go_quiet (fail)
     go_wp2_with fail;go_ret;refine⟨?_,dA hb _⟩;have hne:xs≠ys:=fun e=>HE.q (by have h1:=HX.q;have h2:=HY.q;rw[e,h2] at h1;exact(Option.some.inj h1).symm)
     rw[j hne];rfl
   ·have hkn:k=n:=by omega
    go_wp2_with fail;go_ret;refine⟨?_,hb⟩;have e:xs=ys:=by
     have h:=HF.q
     rwa[g (by rw[HR.q.len];omega),g (by rw[HR'.q.len];omega)] at h
    rw[decide_eq_true e];rfl
 ·have hne:xs≠ys:=fun e=>hl (by rw[←HR.q.len,←HR'.q.len,e])
  have hl':((n:z)==(n':z))=false:=beq_eq_false_iff_ne.2 ah;have HN:=C hne;clear hne hl;go_enter O,M;go_wp2_with fail;go_ret;refine⟨?_,f _ _⟩;rw[j HN.q];rfl
theorem ahE (a a':K Addr) (n c n' c':H) (xs ys:List To) (w:D) (hr:Row w 2 j3 a n c xs) (hr':Row w 2 j3 a' n' c' ys):
  G u 61 #[E a n c,E a' n' c'] w (aW (I (decide (xs=ys))) w):=by
 have hn:=hr.le;have hn':=hr'.le;have HR:=C hr;have HR':=C hr';clear hr hr';by_cases hl:n=n'
 ·subst hl
  clear hn';go_enter func61,ntmps61;go_wp2_with fail
  go_loopw [13] (fun i wr=>∃k:H,k≤n∧i= .int .i64 k∧xs.take k=ys.take k∧Below w.heap.size w wr) (fun i _=>n - (A i).toNat)
  case atStart=>exact⟨0,F _,rfl,rfl,f _ _⟩
  case round=>
   obtain⟨k,hk,rfl,hf,hb⟩:=hrel;have HF:=C hf;clear hf;by_cases hlt:k<n
   ·have hi1:(0:z)≤(k:z):=by omega
    have hi2:(k:z)<(n:z):=by omega
    obtain⟨x,b,o,hx,rfl,hc⟩:=HR.q.at_ hlt;obtain⟨y,b',o',hy,rfl,hc'⟩:=HR'.q.at_ hlt;have h0:=aM hb rfl (hc 0 _ rfl);have h1:=aM hb rfl (hc 1 _ rfl);simp only[B] at h0;have qz:=aM hb rfl (hc' 0 _ rfl);have Md:=aM hb rfl (hc' 1 _ rfl);simp only[B] at qz;have HX:=C hx;have HY:=C hy;clear hc hc' hx hy;by_cases he:x=y
    ·subst he
     go_wp2_with fail
     go_quiet (fail)
     go_wp2_with fail;refine⟨⟨k+1,by omega,by go_num,?_,dA hb _⟩,by simp[A];omega⟩;rw[r,r,HF.q,HX.q,HY.q]
    ·have ht:=Jo x y;rw[j he] at ht
     have HE:=C he;clear he;go_wp2_with fail
     go_quiet (fail)
     go_wp2_with fail;go_ret;refine⟨?_,dA hb _⟩;have hne:xs≠ys:=fun e=>HE.q (by have h1:=HX.q;have h2:=HY.q;rw[e,h2] at h1;exact(Option.some.inj h1).symm)
     rw[j hne];rfl
   ·have hkn:k=n:=by omega
    go_wp2_with fail;go_ret;refine⟨?_,hb⟩;have e:xs=ys:=by
     have h:=HF.q
     rwa[g (by rw[HR.q.len];omega),g (by rw[HR'.q.len];omega)] at h
    rw[decide_eq_true e];rfl
 ·have hne:xs≠ys:=fun e=>hl (by rw[←HR.q.len,←HR'.q.len,e])
  have hl':((n:z)==(n':z))=false:=beq_eq_false_iff_ne.2 ah;have HN:=C hne;clear hne hl;go_enter func61,ntmps61;go_wp2_with fail;go_ret;refine⟨?_,f _ _⟩;rw[j HN.q];rfl
theorem ahF (a a':K Addr) (n c n' c':H) (xs ys:List Wa) (w:D) (hr:Row w 2 eu a n c xs) (hr':Row w 2 eu a' n' c' ys):
  G u 53 #[E a n c,E a' n' c'] w (aW (I (decide (xs=ys))) w):=by
 have hn:=hr.le;have hn':=hr'.le;have HR:=C hr;have HR':=C hr';clear hr hr';by_cases hl:n=n'
 ·subst hl
  clear hn';go_enter func53,ntmps53;go_wp2_with fail
  go_loopw [13] (fun i wr=>∃k:H,k≤n∧i= .int .i64 k∧xs.take k=ys.take k∧Below w.heap.size w wr) (fun i _=>n - (A i).toNat)
  case atStart=>exact⟨0,F _,rfl,rfl,f _ _⟩
  case round=>
   obtain⟨k,hk,rfl,hf,hb⟩:=hrel;have HF:=C hf;clear hf;by_cases hlt:k<n
   ·have hi1:(0:z)≤(k:z):=by omega
    have hi2:(k:z)<(n:z):=by omega
    obtain⟨x,b,o,hx,rfl,hc⟩:=HR.q.at_ hlt;obtain⟨y,b',o',hy,rfl,hc'⟩:=HR'.q.at_ hlt;have h0:=aM hb rfl (hc 0 _ rfl);have h1:=aM hb rfl (hc 1 _ rfl);simp only[B] at h0;have qz:=aM hb rfl (hc' 0 _ rfl);have Md:=aM hb rfl (hc' 1 _ rfl);simp only[B] at qz;have HX:=C hx;have HY:=C hy;clear hc hc' hx hy;by_cases he:x=y
    ·subst he
     go_wp2_with fail
     go_quiet (fail)
     go_wp2_with fail;refine⟨⟨k+1,by omega,by go_num,?_,dA hb _⟩,by simp[A];omega⟩;rw[r,r,HF.q,HX.q,HY.q]
    ·have ht:=aaX x y;rw[j he] at ht
     have HE:=C he;clear he;go_wp2_with fail
     go_quiet (fail)
     go_wp2_with fail;go_ret;refine⟨?_,dA hb _⟩;have hne:xs≠ys:=fun e=>HE.q (by have h1:=HX.q;have h2:=HY.q;rw[e,h2] at h1;exact(Option.some.inj h1).symm)
     rw[j hne];rfl
   ·have hkn:k=n:=by omega
    go_wp2_with fail;go_ret;refine⟨?_,hb⟩;have e:xs=ys:=by
     have h:=HF.q
     rwa[g (by rw[HR.q.len];omega),g (by rw[HR'.q.len];omega)] at h
    rw[decide_eq_true e];rfl
 ·have hne:xs≠ys:=fun e=>hl (by rw[←HR.q.len,←HR'.q.len,e])
  have hl':((n:z)==(n':z))=false:=beq_eq_false_iff_ne.2 ah;have HN:=C hne;clear hne hl;go_enter func53,ntmps53;go_wp2_with fail;go_ret;refine⟨?_,f _ _⟩;rw[j HN.q];rfl
theorem ahG (a a':K Addr) (n c n' c':H) (xs ys:List Sn) (w:D) (hr:Row w 3 bV a n c xs) (hr':Row w 3 bV a' n' c' ys):
  G u 122 #[E a n c,E a' n' c'] w (aW (I (decide (xs=ys))) w):=by
 have hn:=hr.le;have hn':=hr'.le;have HR:=C hr;have HR':=C hr';clear hr hr';by_cases hl:n=n'
 ·subst hl
  clear hn';go_enter func122,ntmps122;go_wp2_with fail
  go_loopw [13] (fun i wr=>∃k:H,k≤n∧i= .int .i64 k∧xs.take k=ys.take k∧Below w.heap.size w wr) (fun i _=>n - (A i).toNat)
  case atStart=>exact⟨0,F _,rfl,rfl,f _ _⟩
  case round=>
   obtain⟨k,hk,rfl,hf,hb⟩:=hrel;have HF:=C hf;clear hf;by_cases hlt:k<n
   ·have hi1:(0:z)≤(k:z):=by omega
    have hi2:(k:z)<(n:z):=by omega
    obtain⟨x,b,o,hx,rfl,hc⟩:=HR.q.at_ hlt;obtain⟨y,b',o',hy,rfl,hc'⟩:=HR'.q.at_ hlt;have h0:=aM hb rfl (hc 0 _ rfl);have h1:=aM hb rfl (hc 1 _ rfl);have h2:=aM hb rfl (hc 2 _ rfl);simp only[B] at h0;have qz:=aM hb rfl (hc' 0 _ rfl);have Md:=aM hb rfl (hc' 1 _ rfl);have h'2:=aM hb rfl (hc' 2 _ rfl);simp only[B] at qz;have HX:=C hx;have HY:=C hy;clear hc hc' hx hy;by_cases he:x=y
    ·subst he
     go_wp2_with fail
     go_quiet (fail)
     go_wp2_with fail;refine⟨⟨k+1,by omega,by go_num,?_,dA hb _⟩,by simp[A];omega⟩;rw[r,r,HF.q,HX.q,HY.q]
    ·have ht:=aaY x y;rw[j he] at ht
     have HE:=C he;clear he;go_wp2_with fail
     go_quiet (fail)
     go_wp2_with fail;go_ret;refine⟨?_,dA hb _⟩;have hne:xs≠ys:=fun e=>HE.q (by have h1:=HX.q;have h2:=HY.q;rw[e,h2] at h1;exact(Option.some.inj h1).symm)
     rw[j hne];rfl
   ·have hkn:k=n:=by omega
    go_wp2_with fail;go_ret;refine⟨?_,hb⟩;have e:xs=ys:=by
     have h:=HF.q
     rwa[g (by rw[HR.q.len];omega),g (by rw[HR'.q.len];omega)] at h
    rw[decide_eq_true e];rfl
 ·have hne:xs≠ys:=fun e=>hl (by rw[←HR.q.len,←HR'.q.len,e])
  have hl':((n:z)==(n':z))=false:=beq_eq_false_iff_ne.2 ah;have HN:=C hne;clear hne hl;go_enter func122,ntmps122;go_wp2_with fail;go_ret;refine⟨?_,f _ _⟩;rw[j HN.q];rfl
structure Sl where
 a:K Addr
 n:H
 c:H
@[reducible] def Sl.v (s:Sl):Value:= E s.a s.n s.c
structure HC where
 t:Sl
 s:Sl
 o:Sl
 p:Sl
 e:Sl
 d:Sl
 m:Sl
 w:Sl
@[reducible] def eF (h:HC):Value:= .agg #[h.t.v,h.s.v,h.o.v,h.p.v,h.e.v,h.d.v,h.m.v,h.w.v]
@[reducible] def aC (h:HC):Array Value:=#[h.t.v,h.s.v,h.o.v,h.p.v,h.e.v,h.d.v,h.m.v,h.w.v]
theorem jC (h:HC) (w:D):G u 48 #[eF h] w (aW (.agg #[h.t.v,h.s.v,h.o.v,h.p.v]) w):=by
 go_enter func48,ntmps48
 go_wp2
 refine bodyPost_ret (v:= .agg #[h.t.v,h.s.v,h.o.v,h.p.v]) (by simp[results,results48,go_sem]) rfl ⟨rfl,?_⟩;exact((f _ _).alloc ak _).alloc ak _
def aT (n:z) (many:H):Bool:=decide (0≤n) && decide (n<many)
theorem xL {n:z} {m:H} (h:n<0):aT n m=false:=by simp[aT,Int.not_le.2 h]
theorem xM {n:z} {m:H} (h:0≤n):aT n m=decide (n<m):=by simp[aT,h]
theorem aaQ (h:HC) (w:D):(Instr.index 101 (.agg #[h.t.v,h.s.v,h.o.v,h.p.v]) (.int .i64 0)).run u w= .ok h.t.v w:=au
theorem Im (h:HC) (n:z) (w:D):G u 127 #[eF h,.int .i64 0,.int .i64 n] w (aW (I (aT n h.t.n)) w):=by
 have hix:=aaQ h;by_cases hn:0≤n
 ·go_enter func127,ntmps127
  go_wp2_with (go_at_call 48;refine(jC h _).mono ?_;rintro e w' ⟨rfl,hb⟩)
  go_ret;refine⟨by rw[xM hn];rfl,((f _ _).alloc ak _).trans (hb.mono ak)⟩
 ·go_enter func127,ntmps127
  go_wp2_with (go_at_call 48;refine(jC h _).mono ?_;rintro e w' ⟨rfl,hb⟩)
  go_ret;exact⟨by rw[xL hn];rfl,(f _ _).alloc ak _⟩
theorem aaR (h:HC) (w:D):(Instr.index 101 (.agg #[h.t.v,h.s.v,h.o.v,h.p.v]) (.int .i64 1)).run u w= .ok h.s.v w:=au
theorem Xn (h:HC) (n:z) (w:D):G u 127 #[eF h,.int .i64 1,.int .i64 n] w (aW (I (aT n h.s.n)) w):=by
 have hix:=aaR h;by_cases hn:0≤n
 ·go_enter func127,ntmps127
  go_wp2_with (go_at_call 48;refine(jC h _).mono ?_;rintro e w' ⟨rfl,hb⟩)
  go_ret;refine⟨by rw[xM hn];rfl,((f _ _).alloc ak _).trans (hb.mono ak)⟩
 ·go_enter func127,ntmps127
  go_wp2_with (go_at_call 48;refine(jC h _).mono ?_;rintro e w' ⟨rfl,hb⟩)
  go_ret;exact⟨by rw[xL hn];rfl,(f _ _).alloc ak _⟩
theorem aaS (h:HC) (w:D):(Instr.index 101 (.agg #[h.t.v,h.s.v,h.o.v,h.p.v]) (.int .i64 2)).run u w= .ok h.o.v w:=au
theorem Et (h:HC) (n:z) (w:D):G u 127 #[eF h,.int .i64 2,.int .i64 n] w (aW (I (aT n h.o.n)) w):=by
 have hix:=aaS h;by_cases hn:0≤n
 ·go_enter func127,ntmps127
  go_wp2_with (go_at_call 48;refine(jC h _).mono ?_;rintro e w' ⟨rfl,hb⟩)
  go_ret;refine⟨by rw[xM hn];rfl,((f _ _).alloc ak _).trans (hb.mono ak)⟩
 ·go_enter func127,ntmps127
  go_wp2_with (go_at_call 48;refine(jC h _).mono ?_;rintro e w' ⟨rfl,hb⟩)
  go_ret;exact⟨by rw[xL hn];rfl,(f _ _).alloc ak _⟩
theorem aaT (h:HC) (w:D):(Instr.index 101 (.agg #[h.t.v,h.s.v,h.o.v,h.p.v]) (.int .i64 3)).run u w= .ok h.p.v w:=au
theorem Xm (h:HC) (n:z) (w:D):G u 127 #[eF h,.int .i64 3,.int .i64 n] w (aW (I (aT n h.p.n)) w):=by
 have hix:=aaT h;by_cases hn:0≤n
 ·go_enter func127,ntmps127
  go_wp2_with (go_at_call 48;refine(jC h _).mono ?_;rintro e w' ⟨rfl,hb⟩)
  go_ret;refine⟨by rw[xM hn];rfl,((f _ _).alloc ak _).trans (hb.mono ak)⟩
 ·go_enter func127,ntmps127
  go_wp2_with (go_at_call 48;refine(jC h _).mono ?_;rintro e w' ⟨rfl,hb⟩)
  go_ret;exact⟨by rw[xL hn];rfl,(f _ _).alloc ak _⟩
def dJ (l:z):Bool:=decide (1≤l) && decide (l≤4)
def wI (l:z):z:=if dJ l=true then 0 else 190
theorem EA {l:z} (h:dJ l=true):wI l=0:=by simp[wI,h]
theorem Bb {l:z} (h:dJ l=false):wI l=190:=by simp[wI,h]
theorem yB (l:z) (w:D):G u 140 #[.int .i64 l] w (aW (.int .i64 (wI l)) w):=by
 by_cases h1:1≤l
 ·by_cases h2:l≤4
  ·go_enter func140,ntmps140
   go_wp2
   go_ret;exact⟨by rw[EA (by simp[dJ,h1,h2])];rfl,f _ _⟩
  ·go_enter func140,ntmps140
   go_wp2
   go_ret;exact⟨by rw[Bb (by simp[dJ];omega)];rfl,f _ _⟩
 ·go_enter func140,ntmps140
  go_wp2
  go_ret;exact⟨by rw[Bb (by simp[dJ];omega)];rfl,f _ _⟩
end Yd
