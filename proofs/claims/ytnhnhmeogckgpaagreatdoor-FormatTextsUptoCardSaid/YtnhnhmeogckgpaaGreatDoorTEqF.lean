import Derived.Test.YtnhnhmeogckgpaaGreatDoorTInfo
set_option linter.all false
set_option maxRecDepth 200000
set_option maxHeartbeats 8000000
namespace Yd
open Nat renaming le_refl→b,zero_le→h
open Go Go.RowKit Go.Proofs Tryz
open Below renaming refl→d
open Go renaming World→j,Calls→k,Addr→l
open Go.Obj renaming cells→g
open Tryz renaming prog→e,ntmps39→m,ntmps40→o,func39→p,func40→r
open Yd renaming hid→f
theorem YZ (a:Option l) (c:Nat) (cs:List EvC) (w:j) (hr:Row w 9 cZ a cs.length c cs) (hby:cs.length*88≤140737488355328):
  k e 71 #[.slice a cs.length c] w (jk 65 9 cZ cs w):=by
 have hm:cs.length≤maxLen:=by have:=hr.le;unfold maxLen;omega
 have hsn:=fun(w:j) (n c:Nat)=> @Lib.run_eql_slice_nil e w 36 65 a n c 0 0 underlying36
 cases a with
 |none=>
  obtain⟨rfl,_,rfl⟩:=hr.none_;go_enter func71,ntmps71;go_wp2_with fail;go_ret;exact⟨none,0,rfl,Own.iE _ _ _ _ _,d _ _⟩
 |some ad=>
  obtain⟨i,z,hi,hz,hsize,bP,hzs⟩:=Mw;have hr1:Row (w.alloc (g #[] 65)) 9 cZ (some ad) cs.length c cs:=hr.below ((d _ _).alloc (b _) _) rfl;have HO:=Own.new (hc:=qF) w w.heap.size 65 (enc:=cZ) #[] [] (b _) rfl (h _);have HB:Below w.heap.size w (w.alloc (g #[] 65)):=(d _ _).alloc (b _) _;have HR:=f hr1;have HC:=f hr;have jN:=f HO;have nu:=f HB;clear hr hr1 HO HB;go_enter func71,ntmps71
  go_wp2_with (at_builtin;refine dV rfl _ _ 36 rfl i z 88 underlying36 hi hz hsize bP hzs rfl jN.q (some ad) cs.length c cs.length cs rfl HR.q ak hby hm ak ?_;intro a' c' w1 hown1 hg1 qX)
  go_ret;exact⟨a',c',rfl,hown1,below_app nu.q jN.q (b _) ak hg1⟩
theorem Y7 (a:Option l) (c:Nat) (cs:List Sn) (w:j) (hr:Row w 3 bV a cs.length c cs) (hby:cs.length*24≤140737488355328):
  k e 72 #[.slice a cs.length c] w (jk 148 3 bV cs w):=by
 have hm:cs.length≤maxLen:=by have:=hr.le;unfold maxLen;omega
 have hsn:=fun(w:j) (n c:Nat)=> @Lib.run_eql_slice_nil e w 63 148 a n c 0 0 underlying63
 cases a with
 |none=>
  obtain⟨rfl,_,rfl⟩:=hr.none_;go_enter func72,ntmps72;go_wp2_with fail;go_ret;exact⟨none,0,rfl,Own.iE _ _ _ _ _,d _ _⟩
 |some ad=>
  obtain⟨i,z,hi,hz,hsize,bP,hzs⟩:=Fz;have hr1:Row (w.alloc (g #[] 148)) 3 bV (some ad) cs.length c cs:=hr.below ((d _ _).alloc (b _) _) rfl;have HO:=Own.new (hc:=kV) w w.heap.size 148 (enc:=bV) #[] [] (b _) rfl (h _);have HB:Below w.heap.size w (w.alloc (g #[] 148)):=(d _ _).alloc (b _) _;have HR:=f hr1;have HC:=f hr;have jN:=f HO;have nu:=f HB;clear hr hr1 HO HB;go_enter func72,ntmps72
  go_wp2_with (at_builtin;refine dV rfl _ _ 63 rfl i z 24 underlying63 hi hz hsize bP hzs rfl jN.q (some ad) cs.length c cs.length cs rfl HR.q ak hby hm ak ?_;intro a' c' w1 hown1 hg1 qX)
  go_ret;exact⟨a',c',rfl,hown1,below_app nu.q jN.q (b _) ak hg1⟩
theorem Y4 (a:Option l) (c:Nat) (cs:List aH) (w:j) (hr:Row w 2 dD a cs.length c cs) (hby:cs.length*32≤140737488355328):
  k e 73 #[.slice a cs.length c] w (jk 79 2 dD cs w):=by
 have hm:cs.length≤maxLen:=by have:=hr.le;unfold maxLen;omega
 have hsn:=fun(w:j) (n c:Nat)=> @Lib.run_eql_slice_nil e w 37 79 a n c 0 0 underlying37
 cases a with
 |none=>
  obtain⟨rfl,_,rfl⟩:=hr.none_;go_enter func73,ntmps73;go_wp2_with fail;go_ret;exact⟨none,0,rfl,Own.iE _ _ _ _ _,d _ _⟩
 |some ad=>
  obtain⟨i,z,hi,hz,hsize,bP,hzs⟩:=MB;have hr1:Row (w.alloc (g #[] 79)) 2 dD (some ad) cs.length c cs:=hr.below ((d _ _).alloc (b _) _) rfl;have HO:=Own.new (hc:=pI) w w.heap.size 79 (enc:=dD) #[] [] (b _) rfl (h _);have HB:Below w.heap.size w (w.alloc (g #[] 79)):=(d _ _).alloc (b _) _;have HR:=f hr1;have HC:=f hr;have jN:=f HO;have nu:=f HB;clear hr hr1 HO HB;go_enter func73,ntmps73
  go_wp2_with (at_builtin;refine dV rfl _ _ 37 rfl i z 32 underlying37 hi hz hsize bP hzs rfl jN.q (some ad) cs.length c cs.length cs rfl HR.q ak hby hm ak ?_;intro a' c' w1 hown1 hg1 qX)
  go_ret;exact⟨a',c',rfl,hown1,below_app nu.q jN.q (b _) ak hg1⟩
theorem Y5 (a:Option l) (c:Nat) (cs:List aI) (w:j) (hr:Row w 4 dx a cs.length c cs) (hby:cs.length*48≤140737488355328):
  k e 74 #[.slice a cs.length c] w (jk 81 4 dx cs w):=by
 have hm:cs.length≤maxLen:=by have:=hr.le;unfold maxLen;omega
 have hsn:=fun(w:j) (n c:Nat)=> @Lib.run_eql_slice_nil e w 38 81 a n c 0 0 underlying38
 cases a with
 |none=>
  obtain⟨rfl,_,rfl⟩:=hr.none_;go_enter func74,ntmps74;go_wp2_with fail;go_ret;exact⟨none,0,rfl,Own.iE _ _ _ _ _,d _ _⟩
 |some ad=>
  obtain⟨i,z,hi,hz,hsize,bP,hzs⟩:=MC;have hr1:Row (w.alloc (g #[] 81)) 4 dx (some ad) cs.length c cs:=hr.below ((d _ _).alloc (b _) _) rfl;have HO:=Own.new (hc:=ny) w w.heap.size 81 (enc:=dx) #[] [] (b _) rfl (h _);have HB:Below w.heap.size w (w.alloc (g #[] 81)):=(d _ _).alloc (b _) _;have HR:=f hr1;have HC:=f hr;have jN:=f HO;have nu:=f HB;clear hr hr1 HO HB;go_enter func74,ntmps74
  go_wp2_with (at_builtin;refine dV rfl _ _ 38 rfl i z 48 underlying38 hi hz hsize bP hzs rfl jN.q (some ad) cs.length c cs.length cs rfl HR.q ak hby hm ak ?_;intro a' c' w1 hown1 hg1 qX)
  go_ret;exact⟨a',c',rfl,hown1,below_app nu.q jN.q (b _) ak hg1⟩
theorem Y6 (a:Option l) (c:Nat) (cs:List Wa) (w:j) (hr:Row w 2 eu a cs.length c cs) (hby:cs.length*16≤140737488355328):
  k e 75 #[.slice a cs.length c] w (jk 83 2 eu cs w):=by
 have hm:cs.length≤maxLen:=by have:=hr.le;unfold maxLen;omega
 have hsn:=fun(w:j) (n c:Nat)=> @Lib.run_eql_slice_nil e w 39 83 a n c 0 0 underlying39
 cases a with
 |none=>
  obtain⟨rfl,_,rfl⟩:=hr.none_;go_enter func75,ntmps75;go_wp2_with fail;go_ret;exact⟨none,0,rfl,Own.iE _ _ _ _ _,d _ _⟩
 |some ad=>
  obtain⟨i,z,hi,hz,hsize,bP,hzs⟩:=MF;have hr1:Row (w.alloc (g #[] 83)) 2 eu (some ad) cs.length c cs:=hr.below ((d _ _).alloc (b _) _) rfl;have HO:=Own.new (hc:=qE) w w.heap.size 83 (enc:=eu) #[] [] (b _) rfl (h _);have HB:Below w.heap.size w (w.alloc (g #[] 83)):=(d _ _).alloc (b _) _;have HR:=f hr1;have HC:=f hr;have jN:=f HO;have nu:=f HB;clear hr hr1 HO HB;go_enter func75,ntmps75
  go_wp2_with (at_builtin;refine dV rfl _ _ 39 rfl i z 16 underlying39 hi hz hsize bP hzs rfl jN.q (some ad) cs.length c cs.length cs rfl HR.q ak hby hm ak ?_;intro a' c' w1 hown1 hg1 qX)
  go_ret;exact⟨a',c',rfl,hown1,below_app nu.q jN.q (b _) ak hg1⟩
theorem JW (a:Option l) (c:Nat) (cs:List Int) (w:j) (hr:Row w 1 aQ a cs.length c cs) (hby:cs.length*8≤140737488355328):
  k e 76 #[.slice a cs.length c] w (jk 3 1 aQ cs w):=by
 have hm:cs.length≤maxLen:=by have:=hr.le;unfold maxLen;omega
 have hsn:=fun(w:j) (n c:Nat)=> @Lib.run_eql_slice_nil e w 26 3 a n c 0 0 underlying26
 cases a with
 |none=>
  obtain⟨rfl,_,rfl⟩:=hr.none_;go_enter func76,ntmps76;go_wp2_with fail;go_ret;exact⟨none,0,rfl,Own.iE _ _ _ _ _,d _ _⟩
 |some ad=>
  obtain⟨i,z,hi,hz,hsize,bP,hzs⟩:=zF;have hr1:Row (w.alloc (g #[] 3)) 1 aQ (some ad) cs.length c cs:=hr.below ((d _ _).alloc (b _) _) rfl;have HO:=Own.new (hc:=eG) w w.heap.size 3 (enc:=aQ) #[] [] (b _) rfl (h _);have HB:Below w.heap.size w (w.alloc (g #[] 3)):=(d _ _).alloc (b _) _;have HR:=f hr1;have HC:=f hr;have jN:=f HO;have nu:=f HB;clear hr hr1 HO HB;go_enter func76,ntmps76
  go_wp2_with (at_builtin;refine dV rfl _ _ 26 rfl i z 8 underlying26 hi hz hsize bP hzs rfl jN.q (some ad) cs.length c cs.length cs rfl HR.q ak hby hm ak ?_;intro a' c' w1 hown1 hg1 qX)
  go_ret;exact⟨a',c',rfl,hown1,below_app nu.q jN.q (b _) ak hg1⟩
theorem tY (a:Option l) (c:Nat) (cs:List Bs) (w:j) (hr:Row w 1 encStr a cs.length c cs) (hby:cs.length*16≤140737488355328):
  k e 39 #[.slice a cs.length c] w (jk 9 1 encStr cs w):=by
 have hm:cs.length≤maxLen:=by have:=hr.le;unfold maxLen;omega
 have hsn:=fun(w:j) (n c:Nat)=> @Lib.run_eql_slice_nil e w 22 9 a n c 0 0 underlying22
 cases a with
 |none=>
  obtain⟨rfl,_,rfl⟩:=hr.none_;go_enter p,m;go_wp2_with fail;go_ret;exact⟨none,0,rfl,Own.iE _ _ _ _ _,d _ _⟩
 |some ad=>
  obtain⟨i,z,hi,hz,hsize,bP,hzs⟩:=oZ;have hr1:Row (w.alloc (g #[] 9)) 1 encStr (some ad) cs.length c cs:=hr.below ((d _ _).alloc (b _) _) rfl;have HO:=Own.new (hc:=iM) w w.heap.size 9 (enc:=encStr) #[] [] (b _) rfl (h _);have HB:Below w.heap.size w (w.alloc (g #[] 9)):=(d _ _).alloc (b _) _;have HR:=f hr1;have HC:=f hr;have jN:=f HO;have nu:=f HB;clear hr hr1 HO HB;go_enter p,m
  go_wp2_with (at_builtin;refine dV rfl _ _ 22 rfl i z 16 underlying22 hi hz hsize bP hzs rfl jN.q (some ad) cs.length c cs.length cs rfl HR.q ak hby hm ak ?_;intro a' c' w1 hown1 hg1 qX)
  go_ret;exact⟨a',c',rfl,hown1,below_app nu.q jN.q (b _) ak hg1⟩
theorem ZE (a:Option l) (c:Nat) (cs:List To) (w:j) (hr:Row w 2 j3 a cs.length c cs) (hby:cs.length*24≤140737488355328):
  k e 40 #[.slice a cs.length c] w (jk 76 2 j3 cs w):=by
 have hm:cs.length≤maxLen:=by have:=hr.le;unfold maxLen;omega
 have hsn:=fun(w:j) (n c:Nat)=> @Lib.run_eql_slice_nil e w 32 76 a n c 0 0 underlying32
 cases a with
 |none=>
  obtain⟨rfl,_,rfl⟩:=hr.none_;go_enter r,o;go_wp2_with fail;go_ret;exact⟨none,0,rfl,Own.iE _ _ _ _ _,d _ _⟩
 |some ad=>
  obtain⟨i,z,hi,hz,hsize,bP,hzs⟩:=Mx;have hr1:Row (w.alloc (g #[] 76)) 2 j3 (some ad) cs.length c cs:=hr.below ((d _ _).alloc (b _) _) rfl;have HO:=Own.new (hc:=yP) w w.heap.size 76 (enc:=j3) #[] [] (b _) rfl (h _);have HB:Below w.heap.size w (w.alloc (g #[] 76)):=(d _ _).alloc (b _) _;have HR:=f hr1;have HC:=f hr;have jN:=f HO;have nu:=f HB;clear hr hr1 HO HB;go_enter r,o
  go_wp2_with (at_builtin;refine dV rfl _ _ 32 rfl i z 24 underlying32 hi hz hsize bP hzs rfl jN.q (some ad) cs.length c cs.length cs rfl HR.q ak hby hm ak ?_;intro a' c' w1 hown1 hg1 qX)
  go_ret;exact⟨a',c',rfl,hown1,below_app nu.q jN.q (b _) ak hg1⟩
end Yd
namespace Yd
open Go Go.RowKit
def qx (xs:List Int) (x:Int):List Int:=if x∈xs then xs else xs++[x]
def bS (xs:List (Int × Int)) (s:Int):List Int:=xs.foldl (fun l x=>if x.1=s then qx l x.2 else l) []
theorem pQ (xs:List (Int × Int)) (x:Int × Int) (s:Int):bS (xs++[x]) s=if x.1=s then qx (bS xs s) x.2 else bS xs s:=by simp[bS]
theorem Pk {l:List Int} {x:Int} (h:l.Nodup):(qx l x).Nodup:=by
 unfold qx
 split
 ·exact h
 ·refine List.nodup_append.2 ⟨h,by simp,fun p hp q hq e=>?_⟩
  simp at hq;subst hq e
  contradiction
theorem zW {α:Type} {P:List α→Prop} (h0:P []) (h1:∀xs x,P xs→P (xs++[x])) (xs:List α):P xs:=by
 have h:∀ys:List α,P ys.reverse:=by
  intro ys
  induction ys with
  |nil=>exact h0
  |cons y ys ih=>rw[List.reverse_cons];exact h1 _ _ ih
 simpa using h xs.reverse
def up (n:Nat):List Int:=(List.range n).map fun i:Nat=>(i:Int)
theorem wT (n:Nat):(up n).length=n:=by simp[up]
theorem acJ {n i:Nat} (h:i<n):(up n)[i]?=some (i:Int):=by simp[up,h]
theorem R3 {n:Nat} {x:Int} (h0:0≤x):x∈up n↔x<n:=by
 unfold up;simp only[List.mem_map,List.mem_range]
 constructor
 ·rintro⟨a,h,rfl⟩;omega
 ·intro h;exact⟨x.toNat,by omega,by omega⟩
theorem LZ (l:List Int) (x:Int):l<+:qx l x:=by
 unfold qx
 split
 ·exact List.prefix_refl _
 ·exact List.prefix_append _ _
theorem EU (xs:List (Int × Int)) (x:Int × Int) (s:Int):bS xs s<+:bS (xs++[x]) s:=by
 rw[pQ]
 split
 ·exact LZ _ _
 ·exact List.prefix_refl _
end Yd
namespace Yd
open List renaming mem_of_getElem?→d
open Nat renaming add_zero→l,zero_le→r
open Go Go.RowKit Go.Proofs Tryz
open Below renaming refl→m
open RowKit renaming intOf→j
open Tryz renaming prog→g
def lN {α:Type} (p:α→α→Bool) (xs ys:List α):Bool:=decide (xs.length=ys.length) && (xs.zip ys).all (fun q=>p q.1 q.2)
def PG {α:Type} (P:Program) (f:Nat) (cap:Array Value) (val:α→Value) (p:α→α→Bool) (xs ys:List α) (w:World):Prop:=
 ∀x∈xs,∀y∈ys,∀W,Below w.heap.size w W→Calls P f (#[val x,val y]++cap) W (aW (.bool (p x y)) W)
theorem Nw {α:Type} {xs ys:List α} {k:Nat} {x y:α} (hx:xs[k]?=some x) (hy:ys[k]?=some y):(xs.zip ys)[k]?=some (x,y):=by
 rw[List.getElem?_zip_eq_some];exact⟨hx,hy⟩
theorem BN {α:Type} {p:α→α→Bool} {xs ys:List α} {k:Nat} {x y:α} (h:((xs.zip ys).take k).all (fun q=>p q.1 q.2)=true) (hx:xs[k]?=some x) (hy:ys[k]?=some y) (hp:p x y=true):((xs.zip ys).take (k+1)).all (fun q=>p q.1 q.2)=true:=by
 rw[List.take_add_one,Nw hx hy];simp only[Option.toList_some,List.all_append,h,List.all_cons,hp,List.all_nil,Bool.and_self]
theorem F3 {α:Type} {p:α→α→Bool} {xs ys:List α} {k:Nat} {x y:α} (hx:xs[k]?=some x) (hy:ys[k]?=some y) (hp:p x y=false):lN p xs ys=false:=by
 have hm:=d (Nw hx hy);unfold lN;rw[Bool.and_eq_false_iff]
 right
 rw[List.all_eq_false];exact⟨(x,y),hm,by simp[hp]⟩
theorem D8 {α:Type} {p:α→α→Bool} {xs ys:List α} {n:Nat} (hx:xs.length=n) (hy:ys.length=n) (h:((xs.zip ys).take n).all (fun q=>p q.1 q.2)=true):lN p xs ys=true:=by
 rw[List.take_of_length_le (by simp[hx,hy])] at h;unfold lN;rw[h,hx,hy];simp
theorem afC (a a':Option Addr) (n c n' c' f:Nat) (cap:Array Value) (xs ys:List aH) (p:aH→aH→Bool) (w:World) (hr:Row w 2 dD a n c xs) (hr':Row w 2 dD a' n' c' ys)
  (eg:∀args w,(callFunc f args).run g w= .ok (.enter f args) w) (hp:PG g f cap vS p xs ys w):
  Calls g 49 #[.slice a n c,.slice a' n' c',.func (.func f) #[] cap] w (aW (.bool (lN p xs ys)) w):=by
 have hn:=hr.le;have hn':=hr'.le;have HR:=hid hr;have HR':=hid hr';have H:=hid hp;clear hr hr' hp;by_cases hl:n=n'
 ·subst hl
  clear hn';go_enter func49,ntmps49;go_wp2_with fail
  go_loopw [17] (fun i wr=>∃k:Nat,k≤n∧i= .int .i64 k∧((xs.zip ys).take k).all (fun q=>p q.1 q.2)=true∧Below w.heap.size w wr) (fun i _=>n - (j i).toNat)
  case atStart=>exact⟨0,r _,rfl,rfl,m _ _⟩
  case round=>
   obtain⟨k,hk,rfl,hf,hb⟩:=hrel;have HF:=hid hf;clear hf;by_cases hlt:k<n
   ·obtain⟨x,b,o,hx,rfl,hc⟩:=HR.q.at_ hlt
    obtain⟨y,b',o',hy,rfl,hc'⟩:=HR'.q.at_ hlt;have h0:=aM hb rfl (hc 0 _ rfl);have h1:=aM hb rfl (hc 1 _ rfl);simp only[l] at h0;have qz:=aM hb rfl (hc' 0 _ rfl);have Md:=aM hb rfl (hc' 1 _ rfl);simp only[l] at qz;have hcall:=H.q x (d hx) y (d hy);have hlb:b'<wr.heap.size:=dS qz;have HX:=hid hx;have HY:=hid hy;clear hc hc' hx hy
    cases hpx:p x y
    all_goals
     rw[hpx] at hcall;have HC:=hid hcall;have HP:=hid hpx;clear hcall hpx;go_wp2_with fail;refine(HC.q _ ((hb.alloc hb.size _).alloc (by have:=hb.size;simp;omega) _)).mono ?_;rintro e w1 ⟨rfl,hb1⟩;go_wp2_with fail
    ·go_ret
     refine⟨?_,((hb.alloc hb.size _).alloc (by have:=hb.size;simp;omega) _).trans (hb1.mono (by have:=hb.size;simp;omega))⟩;rw[F3 HX.q HY.q HP.q];rfl
    ·go_roundw
     case rel=>exact⟨k+1,by omega,by go_num,BN HF.q HX.q HY.q HP.q,((hb.alloc hb.size _).alloc (by have:=hb.size;simp;omega) _).trans (hb1.mono (by have:=hb.size;simp;omega))⟩
     case measure=>simp[j];omega
   ·have hkn:k=n:=by omega
    go_wp2_with fail;go_ret;refine⟨?_,hb⟩;rw[D8 HR.q.len HR'.q.len (by rw[←hkn];exact HF.q)];rfl
 ·have hne:lN p xs ys=false:=by unfold lN;rw[HR.q.len,HR'.q.len];simp[hl]
  have hl':((n:Int)==(n':Int))=false:=beq_eq_false_iff_ne.2 ah;have HN:=hid hne;clear hne hl;go_enter func49,ntmps49;go_wp2_with fail;go_ret;refine⟨?_,m _ _⟩;rw[HN.q];rfl
theorem afD (a a':Option Addr) (n c n' c' f:Nat) (cap:Array Value) (xs ys:List aI) (p:aI→aI→Bool) (w:World) (hr:Row w 4 dx a n c xs) (hr':Row w 4 dx a' n' c' ys)
  (eg:∀args w,(callFunc f args).run g w= .ok (.enter f args) w) (hp:PG g f cap vT p xs ys w):
  Calls g 51 #[.slice a n c,.slice a' n' c',.func (.func f) #[] cap] w (aW (.bool (lN p xs ys)) w):=by
 have hn:=hr.le;have hn':=hr'.le;have HR:=hid hr;have HR':=hid hr';have H:=hid hp;clear hr hr' hp;by_cases hl:n=n'
 ·subst hl
  clear hn';go_enter func51,ntmps51;go_wp2_with fail
  go_loopw [17] (fun i wr=>∃k:Nat,k≤n∧i= .int .i64 k∧((xs.zip ys).take k).all (fun q=>p q.1 q.2)=true∧Below w.heap.size w wr) (fun i _=>n - (j i).toNat)
  case atStart=>exact⟨0,r _,rfl,rfl,m _ _⟩
  case round=>
   obtain⟨k,hk,rfl,hf,hb⟩:=hrel;have HF:=hid hf;clear hf;by_cases hlt:k<n
   ·obtain⟨x,b,o,hx,rfl,hc⟩:=HR.q.at_ hlt
    obtain⟨y,b',o',hy,rfl,hc'⟩:=HR'.q.at_ hlt;have h0:=aM hb rfl (hc 0 _ rfl);have h1:=aM hb rfl (hc 1 _ rfl);have h2:=aM hb rfl (hc 2 _ rfl);have h3:=aM hb rfl (hc 3 _ rfl);simp only[l] at h0;have qz:=aM hb rfl (hc' 0 _ rfl);have Md:=aM hb rfl (hc' 1 _ rfl);have h'2:=aM hb rfl (hc' 2 _ rfl);have h'3:=aM hb rfl (hc' 3 _ rfl);simp only[l] at qz;have hcall:=H.q x (d hx) y (d hy);have hlb:b'<wr.heap.size:=dS qz;have HX:=hid hx;have HY:=hid hy;clear hc hc' hx hy
    cases hpx:p x y
    all_goals
     rw[hpx] at hcall;have HC:=hid hcall;have HP:=hid hpx;clear hcall hpx;go_wp2_with fail;refine(HC.q _ ((hb.alloc hb.size _).alloc (by have:=hb.size;simp;omega) _)).mono ?_;rintro e w1 ⟨rfl,hb1⟩;go_wp2_with fail
    ·go_ret
     refine⟨?_,((hb.alloc hb.size _).alloc (by have:=hb.size;simp;omega) _).trans (hb1.mono (by have:=hb.size;simp;omega))⟩;rw[F3 HX.q HY.q HP.q];rfl
    ·go_roundw
     case rel=>exact⟨k+1,by omega,by go_num,BN HF.q HX.q HY.q HP.q,((hb.alloc hb.size _).alloc (by have:=hb.size;simp;omega) _).trans (hb1.mono (by have:=hb.size;simp;omega))⟩
     case measure=>simp[j];omega
   ·have hkn:k=n:=by omega
    go_wp2_with fail;go_ret;refine⟨?_,hb⟩;rw[D8 HR.q.len HR'.q.len (by rw[←hkn];exact HF.q)];rfl
 ·have hne:lN p xs ys=false:=by unfold lN;rw[HR.q.len,HR'.q.len];simp[hl]
  have hl':((n:Int)==(n':Int))=false:=beq_eq_false_iff_ne.2 ah;have HN:=hid hne;clear hne hl;go_enter func51,ntmps51;go_wp2_with fail;go_ret;refine⟨?_,m _ _⟩;rw[HN.q];rfl
theorem afE (a a':Option Addr) (n c n' c' f:Nat) (cap:Array Value) (xs ys:List EvC) (p:EvC→EvC→Bool) (w:World) (hr:Row w 9 cZ a n c xs) (hr':Row w 9 cZ a' n' c' ys)
  (eg:∀args w,(callFunc f args).run g w= .ok (.enter f args) w) (hp:PG g f cap fO p xs ys w):
  Calls g 54 #[.slice a n c,.slice a' n' c',.func (.func f) #[] cap] w (aW (.bool (lN p xs ys)) w):=by
 have hn:=hr.le;have hn':=hr'.le;have HR:=hid hr;have HR':=hid hr';have H:=hid hp;clear hr hr' hp;by_cases hl:n=n'
 ·subst hl
  clear hn';go_enter func54,ntmps54;go_wp2_with fail
  go_loopw [17] (fun i wr=>∃k:Nat,k≤n∧i= .int .i64 k∧((xs.zip ys).take k).all (fun q=>p q.1 q.2)=true∧Below w.heap.size w wr) (fun i _=>n - (j i).toNat)
  case atStart=>exact⟨0,r _,rfl,rfl,m _ _⟩
  case round=>
   obtain⟨k,hk,rfl,hf,hb⟩:=hrel;have HF:=hid hf;clear hf;by_cases hlt:k<n
   ·obtain⟨x,b,o,hx,rfl,hc⟩:=HR.q.at_ hlt
    obtain⟨y,b',o',hy,rfl,hc'⟩:=HR'.q.at_ hlt;have h0:=aM hb rfl (hc 0 _ rfl);have h1:=aM hb rfl (hc 1 _ rfl);have h2:=aM hb rfl (hc 2 _ rfl);have h3:=aM hb rfl (hc 3 _ rfl);have h4:=aM hb rfl (hc 4 _ rfl);have h5:=aM hb rfl (hc 5 _ rfl);have h6:=aM hb rfl (hc 6 _ rfl);have h7:=aM hb rfl (hc 7 _ rfl);have h8:=aM hb rfl (hc 8 _ rfl);simp only[l] at h0;have qz:=aM hb rfl (hc' 0 _ rfl);have Md:=aM hb rfl (hc' 1 _ rfl);have h'2:=aM hb rfl (hc' 2 _ rfl);have h'3:=aM hb rfl (hc' 3 _ rfl);have h'4:=aM hb rfl (hc' 4 _ rfl);have h'5:=aM hb rfl (hc' 5 _ rfl);have h'6:=aM hb rfl (hc' 6 _ rfl);have h'7:=aM hb rfl (hc' 7 _ rfl);have h'8:=aM hb rfl (hc' 8 _ rfl);simp only[l] at qz;have hcall:=H.q x (d hx) y (d hy);have hlb:b'<wr.heap.size:=dS qz;have HX:=hid hx;have HY:=hid hy;clear hc hc' hx hy
    cases hpx:p x y
    all_goals
     rw[hpx] at hcall;have HC:=hid hcall;have HP:=hid hpx;clear hcall hpx;go_wp2_with fail;refine(HC.q _ ((hb.alloc hb.size _).alloc (by have:=hb.size;simp;omega) _)).mono ?_;rintro e w1 ⟨rfl,hb1⟩;go_wp2_with fail
    ·go_ret
     refine⟨?_,((hb.alloc hb.size _).alloc (by have:=hb.size;simp;omega) _).trans (hb1.mono (by have:=hb.size;simp;omega))⟩;rw[F3 HX.q HY.q HP.q];rfl
    ·go_roundw
     case rel=>exact⟨k+1,by omega,by go_num,BN HF.q HX.q HY.q HP.q,((hb.alloc hb.size _).alloc (by have:=hb.size;simp;omega) _).trans (hb1.mono (by have:=hb.size;simp;omega))⟩
     case measure=>simp[j];omega
   ·have hkn:k=n:=by omega
    go_wp2_with fail;go_ret;refine⟨?_,hb⟩;rw[D8 HR.q.len HR'.q.len (by rw[←hkn];exact HF.q)];rfl
 ·have hne:lN p xs ys=false:=by unfold lN;rw[HR.q.len,HR'.q.len];simp[hl]
  have hl':((n:Int)==(n':Int))=false:=beq_eq_false_iff_ne.2 ah;have HN:=hid hne;clear hne hl;go_enter func54,ntmps54;go_wp2_with fail;go_ret;refine⟨?_,m _ _⟩;rw[HN.q];rfl
end Yd
