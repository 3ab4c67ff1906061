import Derived.Test.YtnhnhmeogckgpaaGreatDoorOwn
set_option linter.all false
set_option maxRecDepth 200000
set_option maxHeartbeats 8000000
namespace Yd
open List renaming mem_of_getElem?→r
open Nat renaming le_refl→d,zero_le→s,add_zero→B
open Option renaming some→j,none→G
open Go Go.RowKit Go.Proofs Tryz
open Below renaming refl→g
open Go renaming World→t,Calls→D,Addr→E
open Go.Obj renaming cells→u
open Go.Value renaming slice→v
open RowKit renaming intOf→A
open Tryz renaming prog→l,ntmps39→I,ntmps40→J,func39→K,func40→L
open Yd renaming hid→m
open _root_ renaming Option→C,Bool→F
theorem nQ {P:Program} {T:TypeId} {k by_:Nat} (h:(P.info? T).map (fun i=>(i.zero.map (·.cells.size),i.size,i.bytes))=j (j k,k,by_)):
  ∃i z,P.info? T=j i∧i.zero=j z∧i.size=k∧i.bytes=by_∧z.cells.size=k:=by
 cases hi:P.info? T with
 |none=>rw[hi] at h;cases h
 |some i=>
  rw[hi] at h;simp only[Option.map_some,Option.some.injEq,Prod.mk.injEq] at h;obtain⟨h1,h2,h3⟩:=h
  cases hz:i.zero with
  |none=>rw[hz] at h1;cases h1
  |some z=>rw[hz] at h1;exact⟨i,z,rfl,hz,h2,h3,by simpa using h1⟩
theorem adH:(Tryz.prog.info? 65).map (fun i=>(i.zero.map (·.cells.size),i.size,i.bytes))=j (j 9,9,88):=au
theorem NK:∃i z,Tryz.prog.info? 65=j i∧i.zero=j z∧i.size=9∧i.bytes=88∧z.cells.size=9:=nQ adH
theorem adI:(Tryz.prog.info? 76).map (fun i=>(i.zero.map (·.cells.size),i.size,i.bytes))=j (j 2,2,24):=au
theorem NA:∃i z,Tryz.prog.info? 76=j i∧i.zero=j z∧i.size=2∧i.bytes=24∧z.cells.size=2:=nQ adI
theorem ZC:(Tryz.prog.info? 9).map (fun i=>(i.zero.map (·.cells.size),i.size,i.bytes))=j (j 1,1,16):=au
theorem vT:∃i z,Tryz.prog.info? 9=j i∧i.zero=j z∧i.size=1∧i.bytes=16∧z.cells.size=1:=nQ ZC
theorem ZE:(Tryz.prog.info? 3).map (fun i=>(i.zero.map (·.cells.size),i.size,i.bytes))=j (j 1,1,8):=au
theorem Ev:∃i z,Tryz.prog.info? 3=j i∧i.zero=j z∧i.size=1∧i.bytes=8∧z.cells.size=1:=nQ ZE
theorem adJ:(Tryz.prog.info? 79).map (fun i=>(i.zero.map (·.cells.size),i.size,i.bytes))=j (j 2,2,32):=au
theorem M7:∃i z,Tryz.prog.info? 79=j i∧i.zero=j z∧i.size=2∧i.bytes=32∧z.cells.size=2:=nQ adJ
theorem adK:(Tryz.prog.info? 81).map (fun i=>(i.zero.map (·.cells.size),i.size,i.bytes))=j (j 4,4,48):=au
theorem Ob:∃i z,Tryz.prog.info? 81=j i∧i.zero=j z∧i.size=4∧i.bytes=48∧z.cells.size=4:=nQ adK
theorem adL:(Tryz.prog.info? 83).map (fun i=>(i.zero.map (·.cells.size),i.size,i.bytes))=j (j 2,2,16):=au
theorem M6:∃i z,Tryz.prog.info? 83=j i∧i.zero=j z∧i.size=2∧i.bytes=16∧z.cells.size=2:=nQ adL
theorem adM:(Tryz.prog.info? 148).map (fun i=>(i.zero.map (·.cells.size),i.size,i.bytes))=j (j 3,3,24):=au
theorem Gd:∃i z,Tryz.prog.info? 148=j i∧i.zero=j z∧i.size=3∧i.bytes=24∧z.cells.size=3:=nQ adM
theorem adN:(Tryz.prog.info? 34).map (fun i=>(i.zero.map (·.cells.size),i.size,i.bytes))=j (j 6,6,80):=au
theorem zT:∃i z,Tryz.prog.info? 34=j i∧i.zero=j z∧i.size=6∧i.bytes=80∧z.cells.size=6:=nQ adN
theorem Yv (a:C E) (c:Nat) (cs:List EvC) (w:t) (hr:Row w 9 dP a cs.length c cs) (hby:cs.length*88≤140737488355328):
  D l 71 #[v a cs.length c] w (jD 65 9 dP cs w):=by
 have hm:cs.length≤maxLen:=by have:=hr.le;unfold maxLen;omega
 have hsn:=fun(w:t) (n c:Nat)=> @Lib.run_eql_slice_nil l w 36 65 a n c 0 0 underlying36
 cases a with
 |none=>
  obtain⟨rfl,_,rfl⟩:=hr.none_;go_enter func71,ntmps71;go_wp2_with fail;go_ret;exact⟨G,0,rfl,Own.iJ _ _ _ _ _,g _ _⟩
 |some ad=>
  obtain⟨i,z,hi,hz,hsize,cZ,hzs⟩:=NK;have hr1:Row (w.alloc (u #[] 65)) 9 dP (j ad) cs.length c cs:=hr.below ((g _ _).alloc (d _) _) rfl;have HO:=Own.new (hc:=sO) w w.heap.size 65 (enc:=dP) #[] [] (d _) rfl (s _);have HB:Below w.heap.size w (w.alloc (u #[] 65)):=(g _ _).alloc (d _) _;have HR:=m hr1;have HC:=m hr;have kK:=m HO;have oz:=m HB;clear hr hr1 HO HB;go_enter func71,ntmps71
  go_wp2_with (at_builtin;refine dO rfl _ _ 36 rfl i z 88 underlying36 hi hz hsize cZ hzs rfl kK.q (j ad) cs.length c cs.length cs rfl HR.q ak hby hm ak ?_;intro a' c' w1 hown1 hg1 zH)
  go_ret;exact⟨a',c',rfl,hown1,below_app oz.q kK.q (d _) ak hg1⟩
theorem Yz (a:C E) (c:Nat) (cs:List Sn) (w:t) (hr:Row w 3 dB a cs.length c cs) (hby:cs.length*24≤140737488355328):
  D l 72 #[v a cs.length c] w (jD 148 3 dB cs w):=by
 have hm:cs.length≤maxLen:=by have:=hr.le;unfold maxLen;omega
 have hsn:=fun(w:t) (n c:Nat)=> @Lib.run_eql_slice_nil l w 63 148 a n c 0 0 underlying63
 cases a with
 |none=>
  obtain⟨rfl,_,rfl⟩:=hr.none_;go_enter func72,ntmps72;go_wp2_with fail;go_ret;exact⟨G,0,rfl,Own.iJ _ _ _ _ _,g _ _⟩
 |some ad=>
  obtain⟨i,z,hi,hz,hsize,cZ,hzs⟩:=Gd;have hr1:Row (w.alloc (u #[] 148)) 3 dB (j ad) cs.length c cs:=hr.below ((g _ _).alloc (d _) _) rfl;have HO:=Own.new (hc:=l9) w w.heap.size 148 (enc:=dB) #[] [] (d _) rfl (s _);have HB:Below w.heap.size w (w.alloc (u #[] 148)):=(g _ _).alloc (d _) _;have HR:=m hr1;have HC:=m hr;have kK:=m HO;have oz:=m HB;clear hr hr1 HO HB;go_enter func72,ntmps72
  go_wp2_with (at_builtin;refine dO rfl _ _ 63 rfl i z 24 underlying63 hi hz hsize cZ hzs rfl kK.q (j ad) cs.length c cs.length cs rfl HR.q ak hby hm ak ?_;intro a' c' w1 hown1 hg1 zH)
  go_ret;exact⟨a',c',rfl,hown1,below_app oz.q kK.q (d _) ak hg1⟩
theorem Yw (a:C E) (c:Nat) (cs:List aK) (w:t) (hr:Row w 2 eu a cs.length c cs) (hby:cs.length*32≤140737488355328):
  D l 73 #[v a cs.length c] w (jD 79 2 eu cs w):=by
 have hm:cs.length≤maxLen:=by have:=hr.le;unfold maxLen;omega
 have hsn:=fun(w:t) (n c:Nat)=> @Lib.run_eql_slice_nil l w 37 79 a n c 0 0 underlying37
 cases a with
 |none=>
  obtain⟨rfl,_,rfl⟩:=hr.none_;go_enter func73,ntmps73;go_wp2_with fail;go_ret;exact⟨G,0,rfl,Own.iJ _ _ _ _ _,g _ _⟩
 |some ad=>
  obtain⟨i,z,hi,hz,hsize,cZ,hzs⟩:=M7;have hr1:Row (w.alloc (u #[] 79)) 2 eu (j ad) cs.length c cs:=hr.below ((g _ _).alloc (d _) _) rfl;have HO:=Own.new (hc:=qJ) w w.heap.size 79 (enc:=eu) #[] [] (d _) rfl (s _);have HB:Below w.heap.size w (w.alloc (u #[] 79)):=(g _ _).alloc (d _) _;have HR:=m hr1;have HC:=m hr;have kK:=m HO;have oz:=m HB;clear hr hr1 HO HB;go_enter func73,ntmps73
  go_wp2_with (at_builtin;refine dO rfl _ _ 37 rfl i z 32 underlying37 hi hz hsize cZ hzs rfl kK.q (j ad) cs.length c cs.length cs rfl HR.q ak hby hm ak ?_;intro a' c' w1 hown1 hg1 zH)
  go_ret;exact⟨a',c',rfl,hown1,below_app oz.q kK.q (d _) ak hg1⟩
theorem Yx (a:C E) (c:Nat) (cs:List aM) (w:t) (hr:Row w 4 dW a cs.length c cs) (hby:cs.length*48≤140737488355328):
  D l 74 #[v a cs.length c] w (jD 81 4 dW cs w):=by
 have hm:cs.length≤maxLen:=by have:=hr.le;unfold maxLen;omega
 have hsn:=fun(w:t) (n c:Nat)=> @Lib.run_eql_slice_nil l w 38 81 a n c 0 0 underlying38
 cases a with
 |none=>
  obtain⟨rfl,_,rfl⟩:=hr.none_;go_enter func74,ntmps74;go_wp2_with fail;go_ret;exact⟨G,0,rfl,Own.iJ _ _ _ _ _,g _ _⟩
 |some ad=>
  obtain⟨i,z,hi,hz,hsize,cZ,hzs⟩:=Ob;have hr1:Row (w.alloc (u #[] 81)) 4 dW (j ad) cs.length c cs:=hr.below ((g _ _).alloc (d _) _) rfl;have HO:=Own.new (hc:=oo) w w.heap.size 81 (enc:=dW) #[] [] (d _) rfl (s _);have HB:Below w.heap.size w (w.alloc (u #[] 81)):=(g _ _).alloc (d _) _;have HR:=m hr1;have HC:=m hr;have kK:=m HO;have oz:=m HB;clear hr hr1 HO HB;go_enter func74,ntmps74
  go_wp2_with (at_builtin;refine dO rfl _ _ 38 rfl i z 48 underlying38 hi hz hsize cZ hzs rfl kK.q (j ad) cs.length c cs.length cs rfl HR.q ak hby hm ak ?_;intro a' c' w1 hown1 hg1 zH)
  go_ret;exact⟨a',c',rfl,hown1,below_app oz.q kK.q (d _) ak hg1⟩
theorem Yy (a:C E) (c:Nat) (cs:List Wa) (w:t) (hr:Row w 2 fK a cs.length c cs) (hby:cs.length*16≤140737488355328):
  D l 75 #[v a cs.length c] w (jD 83 2 fK cs w):=by
 have hm:cs.length≤maxLen:=by have:=hr.le;unfold maxLen;omega
 have hsn:=fun(w:t) (n c:Nat)=> @Lib.run_eql_slice_nil l w 39 83 a n c 0 0 underlying39
 cases a with
 |none=>
  obtain⟨rfl,_,rfl⟩:=hr.none_;go_enter func75,ntmps75;go_wp2_with fail;go_ret;exact⟨G,0,rfl,Own.iJ _ _ _ _ _,g _ _⟩
 |some ad=>
  obtain⟨i,z,hi,hz,hsize,cZ,hzs⟩:=M6;have hr1:Row (w.alloc (u #[] 83)) 2 fK (j ad) cs.length c cs:=hr.below ((g _ _).alloc (d _) _) rfl;have HO:=Own.new (hc:=sH) w w.heap.size 83 (enc:=fK) #[] [] (d _) rfl (s _);have HB:Below w.heap.size w (w.alloc (u #[] 83)):=(g _ _).alloc (d _) _;have HR:=m hr1;have HC:=m hr;have kK:=m HO;have oz:=m HB;clear hr hr1 HO HB;go_enter func75,ntmps75
  go_wp2_with (at_builtin;refine dO rfl _ _ 39 rfl i z 16 underlying39 hi hz hsize cZ hzs rfl kK.q (j ad) cs.length c cs.length cs rfl HR.q ak hby hm ak ?_;intro a' c' w1 hown1 hg1 zH)
  go_ret;exact⟨a',c',rfl,hown1,below_app oz.q kK.q (d _) ak hg1⟩
theorem JS (a:C E) (c:Nat) (cs:List Int) (w:t) (hr:Row w 1 aZ a cs.length c cs) (hby:cs.length*8≤140737488355328):
  D l 76 #[v a cs.length c] w (jD 3 1 aZ cs w):=by
 have hm:cs.length≤maxLen:=by have:=hr.le;unfold maxLen;omega
 have hsn:=fun(w:t) (n c:Nat)=> @Lib.run_eql_slice_nil l w 26 3 a n c 0 0 underlying26
 cases a with
 |none=>
  obtain⟨rfl,_,rfl⟩:=hr.none_;go_enter func76,ntmps76;go_wp2_with fail;go_ret;exact⟨G,0,rfl,Own.iJ _ _ _ _ _,g _ _⟩
 |some ad=>
  obtain⟨i,z,hi,hz,hsize,cZ,hzs⟩:=Ev;have hr1:Row (w.alloc (u #[] 3)) 1 aZ (j ad) cs.length c cs:=hr.below ((g _ _).alloc (d _) _) rfl;have HO:=Own.new (hc:=gZ) w w.heap.size 3 (enc:=aZ) #[] [] (d _) rfl (s _);have HB:Below w.heap.size w (w.alloc (u #[] 3)):=(g _ _).alloc (d _) _;have HR:=m hr1;have HC:=m hr;have kK:=m HO;have oz:=m HB;clear hr hr1 HO HB;go_enter func76,ntmps76
  go_wp2_with (at_builtin;refine dO rfl _ _ 26 rfl i z 8 underlying26 hi hz hsize cZ hzs rfl kK.q (j ad) cs.length c cs.length cs rfl HR.q ak hby hm ak ?_;intro a' c' w1 hown1 hg1 zH)
  go_ret;exact⟨a',c',rfl,hown1,below_app oz.q kK.q (d _) ak hg1⟩
theorem vN (a:C E) (c:Nat) (cs:List Bs) (w:t) (hr:Row w 1 encStr a cs.length c cs) (hby:cs.length*16≤140737488355328):
  D l 39 #[v a cs.length c] w (jD 9 1 encStr cs w):=by
 have hm:cs.length≤maxLen:=by have:=hr.le;unfold maxLen;omega
 have hsn:=fun(w:t) (n c:Nat)=> @Lib.run_eql_slice_nil l w 22 9 a n c 0 0 underlying22
 cases a with
 |none=>
  obtain⟨rfl,_,rfl⟩:=hr.none_;go_enter K,I;go_wp2_with fail;go_ret;exact⟨G,0,rfl,Own.iJ _ _ _ _ _,g _ _⟩
 |some ad=>
  obtain⟨i,z,hi,hz,hsize,cZ,hzs⟩:=vT;have hr1:Row (w.alloc (u #[] 9)) 1 encStr (j ad) cs.length c cs:=hr.below ((g _ _).alloc (d _) _) rfl;have HO:=Own.new (hc:=kQ) w w.heap.size 9 (enc:=encStr) #[] [] (d _) rfl (s _);have HB:Below w.heap.size w (w.alloc (u #[] 9)):=(g _ _).alloc (d _) _;have HR:=m hr1;have HC:=m hr;have kK:=m HO;have oz:=m HB;clear hr hr1 HO HB;go_enter K,I
  go_wp2_with (at_builtin;refine dO rfl _ _ 22 rfl i z 16 underlying22 hi hz hsize cZ hzs rfl kK.q (j ad) cs.length c cs.length cs rfl HR.q ak hby hm ak ?_;intro a' c' w1 hown1 hg1 zH)
  go_ret;exact⟨a',c',rfl,hown1,below_app oz.q kK.q (d _) ak hg1⟩
theorem Yn (a:C E) (c:Nat) (cs:List To) (w:t) (hr:Row w 2 mR a cs.length c cs) (hby:cs.length*24≤140737488355328):
  D l 40 #[v a cs.length c] w (jD 76 2 mR cs w):=by
 have hm:cs.length≤maxLen:=by have:=hr.le;unfold maxLen;omega
 have hsn:=fun(w:t) (n c:Nat)=> @Lib.run_eql_slice_nil l w 32 76 a n c 0 0 underlying32
 cases a with
 |none=>
  obtain⟨rfl,_,rfl⟩:=hr.none_;go_enter L,J;go_wp2_with fail;go_ret;exact⟨G,0,rfl,Own.iJ _ _ _ _ _,g _ _⟩
 |some ad=>
  obtain⟨i,z,hi,hz,hsize,cZ,hzs⟩:=NA;have hr1:Row (w.alloc (u #[] 76)) 2 mR (j ad) cs.length c cs:=hr.below ((g _ _).alloc (d _) _) rfl;have HO:=Own.new (hc:=Fe) w w.heap.size 76 (enc:=mR) #[] [] (d _) rfl (s _);have HB:Below w.heap.size w (w.alloc (u #[] 76)):=(g _ _).alloc (d _) _;have HR:=m hr1;have HC:=m hr;have kK:=m HO;have oz:=m HB;clear hr hr1 HO HB;go_enter L,J
  go_wp2_with (at_builtin;refine dO rfl _ _ 32 rfl i z 24 underlying32 hi hz hsize cZ hzs rfl kK.q (j ad) cs.length c cs.length cs rfl HR.q ak hby hm ak ?_;intro a' c' w1 hown1 hg1 zH)
  go_ret;exact⟨a',c',rfl,hown1,below_app oz.q kK.q (d _) ak hg1⟩
def mJ {α:Type} (p:α→α→F) (xs ys:List α):F:=decide (xs.length=ys.length) && (xs.zip ys).all (fun q=>p q.1 q.2)
def Qx {α:Type} (P:Program) (f:Nat) (cap:Array Value) (val:α→Value) (p:α→α→F) (xs ys:List α) (w:t):Prop:=
 ∀x∈xs,∀y∈ys,∀W,Below w.heap.size w W→D P f (#[val x,val y]++cap) W (bC (.bool (p x y)) W)
theorem Ox {α:Type} {xs ys:List α} {k:Nat} {x y:α} (hx:xs[k]?=j x) (hy:ys[k]?=j y):(xs.zip ys)[k]?=j (x,y):=by
 rw[List.getElem?_zip_eq_some];exact⟨hx,hy⟩
theorem CY {α:Type} {p:α→α→F} {xs ys:List α} {k:Nat} {x y:α} (h:((xs.zip ys).take k).all (fun q=>p q.1 q.2)=true) (hx:xs[k]?=j x) (hy:ys[k]?=j y) (hp:p x y=true):((xs.zip ys).take (k+1)).all (fun q=>p q.1 q.2)=true:=by
 rw[List.take_add_one,Ox hx hy];simp only[Option.toList_some,List.all_append,h,List.all_cons,hp,List.all_nil,Bool.and_self]
theorem GL {α:Type} {p:α→α→F} {xs ys:List α} {k:Nat} {x y:α} (hx:xs[k]?=j x) (hy:ys[k]?=j y) (hp:p x y=false):mJ p xs ys=false:=by
 have hm:=r (Ox hx hy);unfold mJ;rw[Bool.and_eq_false_iff]
 right
 rw[List.all_eq_false];exact⟨(x,y),hm,by simp[hp]⟩
theorem ET {α:Type} {p:α→α→F} {xs ys:List α} {n:Nat} (hx:xs.length=n) (hy:ys.length=n) (h:((xs.zip ys).take n).all (fun q=>p q.1 q.2)=true):mJ p xs ys=true:=by
 rw[List.take_of_length_le (by simp[hx,hy])] at h;unfold mJ;rw[h,hx,hy];simp
theorem aeM (a a':C E) (n c n' c' f:Nat) (cap:Array Value) (xs ys:List aK) (p:aK→aK→F) (w:t) (hr:Row w 2 eu a n c xs) (hr':Row w 2 eu a' n' c' ys)
  (eg:∀args w,(callFunc f args).run l w= .ok (.enter f args) w) (hp:Qx l f cap xL p xs ys w):
  D l 49 #[v a n c,v a' n' c',.func (.func f) #[] cap] w (bC (.bool (mJ p xs ys)) w):=by
 have hn:=hr.le;have hn':=hr'.le;have HR:=m hr;have HR':=m hr';have H:=m hp;clear hr hr' hp;by_cases hl:n=n'
 ·subst hl
  clear hn';go_enter func49,ntmps49;go_wp2_with fail
  go_loopw [17] (fun i wr=>∃k:Nat,k≤n∧i= .int .i64 k∧((xs.zip ys).take k).all (fun q=>p q.1 q.2)=true∧Below w.heap.size w wr) (fun i _=>n - (A i).toNat)
  case atStart=>exact⟨0,s _,rfl,rfl,g _ _⟩
  case round=>
   obtain⟨k,hk,rfl,hf,hb⟩:=hrel;have HF:=m hf;clear hf;by_cases hlt:k<n
   ·obtain⟨x,b,o,hx,rfl,hc⟩:=HR.q.at_ hlt
    obtain⟨y,b',o',hy,rfl,hc'⟩:=HR'.q.at_ hlt;have h0:=aT hb rfl (hc 0 _ rfl);have h1:=aT hb rfl (hc 1 _ rfl);simp only[B] at h0;have xG:=aT hb rfl (hc' 0 _ rfl);have Ya:=aT hb rfl (hc' 1 _ rfl);simp only[B] at xG;have hcall:=H.q x (r hx) y (r hy);have hlb:b'<wr.heap.size:=fw xG;have HX:=m hx;have HY:=m hy;clear hc hc' hx hy
    cases hpx:p x y
    all_goals
     rw[hpx] at hcall;have HC:=m hcall;have HP:=m hpx;clear hcall hpx;go_wp2_with fail;refine(HC.q _ ((hb.alloc hb.size _).alloc (by have:=hb.size;simp;omega) _)).mono ?_;rintro e w1 ⟨rfl,hb1⟩;go_wp2_with fail
    ·go_ret
     refine⟨?_,((hb.alloc hb.size _).alloc (by have:=hb.size;simp;omega) _).trans (hb1.mono (by have:=hb.size;simp;omega))⟩;rw[GL HX.q HY.q HP.q];rfl
    ·go_roundw
     case rel=>exact⟨k+1,by omega,by go_num,CY HF.q HX.q HY.q HP.q,((hb.alloc hb.size _).alloc (by have:=hb.size;simp;omega) _).trans (hb1.mono (by have:=hb.size;simp;omega))⟩
     case measure=>simp[A];omega
   ·have hkn:k=n:=by omega
    go_wp2_with fail;go_ret;refine⟨?_,hb⟩;rw[ET HR.q.len HR'.q.len (by rw[←hkn];exact HF.q)];rfl
 ·have hne:mJ p xs ys=false:=by unfold mJ;rw[HR.q.len,HR'.q.len];simp[hl]
  have hl':((n:Int)==(n':Int))=false:=beq_eq_false_iff_ne.2 ah;have HN:=m hne;clear hne hl;go_enter func49,ntmps49;go_wp2_with fail;go_ret;refine⟨?_,g _ _⟩;rw[HN.q];rfl
theorem aeN (a a':C E) (n c n' c' f:Nat) (cap:Array Value) (xs ys:List aM) (p:aM→aM→F) (w:t) (hr:Row w 4 dW a n c xs) (hr':Row w 4 dW a' n' c' ys)
  (eg:∀args w,(callFunc f args).run l w= .ok (.enter f args) w) (hp:Qx l f cap xM p xs ys w):
  D l 51 #[v a n c,v a' n' c',.func (.func f) #[] cap] w (bC (.bool (mJ p xs ys)) w):=by
 have hn:=hr.le;have hn':=hr'.le;have HR:=m hr;have HR':=m hr';have H:=m hp;clear hr hr' hp;by_cases hl:n=n'
 ·subst hl
  clear hn';go_enter func51,ntmps51;go_wp2_with fail
  go_loopw [17] (fun i wr=>∃k:Nat,k≤n∧i= .int .i64 k∧((xs.zip ys).take k).all (fun q=>p q.1 q.2)=true∧Below w.heap.size w wr) (fun i _=>n - (A i).toNat)
  case atStart=>exact⟨0,s _,rfl,rfl,g _ _⟩
  case round=>
   obtain⟨k,hk,rfl,hf,hb⟩:=hrel;have HF:=m hf;clear hf;by_cases hlt:k<n
   ·obtain⟨x,b,o,hx,rfl,hc⟩:=HR.q.at_ hlt
    obtain⟨y,b',o',hy,rfl,hc'⟩:=HR'.q.at_ hlt;have h0:=aT hb rfl (hc 0 _ rfl);have h1:=aT hb rfl (hc 1 _ rfl);have h2:=aT hb rfl (hc 2 _ rfl);have h3:=aT hb rfl (hc 3 _ rfl);simp only[B] at h0;have xG:=aT hb rfl (hc' 0 _ rfl);have Ya:=aT hb rfl (hc' 1 _ rfl);have h'2:=aT hb rfl (hc' 2 _ rfl);have h'3:=aT hb rfl (hc' 3 _ rfl);simp only[B] at xG;have hcall:=H.q x (r hx) y (r hy);have hlb:b'<wr.heap.size:=fw xG;have HX:=m hx;have HY:=m hy;clear hc hc' hx hy
    cases hpx:p x y
    all_goals
     rw[hpx] at hcall;have HC:=m hcall;have HP:=m hpx;clear hcall hpx;go_wp2_with fail;refine(HC.q _ ((hb.alloc hb.size _).alloc (by have:=hb.size;simp;omega) _)).mono ?_;rintro e w1 ⟨rfl,hb1⟩;go_wp2_with fail
    ·go_ret
     refine⟨?_,((hb.alloc hb.size _).alloc (by have:=hb.size;simp;omega) _).trans (hb1.mono (by have:=hb.size;simp;omega))⟩;rw[GL HX.q HY.q HP.q];rfl
    ·go_roundw
     case rel=>exact⟨k+1,by omega,by go_num,CY HF.q HX.q HY.q HP.q,((hb.alloc hb.size _).alloc (by have:=hb.size;simp;omega) _).trans (hb1.mono (by have:=hb.size;simp;omega))⟩
     case measure=>simp[A];omega
   ·have hkn:k=n:=by omega
    go_wp2_with fail;go_ret;refine⟨?_,hb⟩;rw[ET HR.q.len HR'.q.len (by rw[←hkn];exact HF.q)];rfl
 ·have hne:mJ p xs ys=false:=by unfold mJ;rw[HR.q.len,HR'.q.len];simp[hl]
  have hl':((n:Int)==(n':Int))=false:=beq_eq_false_iff_ne.2 ah;have HN:=m hne;clear hne hl;go_enter func51,ntmps51;go_wp2_with fail;go_ret;refine⟨?_,g _ _⟩;rw[HN.q];rfl
theorem aeO (a a':C E) (n c n' c' f:Nat) (cap:Array Value) (xs ys:List EvC) (p:EvC→EvC→F) (w:t) (hr:Row w 9 dP a n c xs) (hr':Row w 9 dP a' n' c' ys)
  (eg:∀args w,(callFunc f args).run l w= .ok (.enter f args) w) (hp:Qx l f cap gW p xs ys w):
  D l 54 #[v a n c,v a' n' c',.func (.func f) #[] cap] w (bC (.bool (mJ p xs ys)) w):=by
 have hn:=hr.le;have hn':=hr'.le;have HR:=m hr;have HR':=m hr';have H:=m hp;clear hr hr' hp;by_cases hl:n=n'
 ·subst hl
  clear hn';go_enter func54,ntmps54;go_wp2_with fail
  go_loopw [17] (fun i wr=>∃k:Nat,k≤n∧i= .int .i64 k∧((xs.zip ys).take k).all (fun q=>p q.1 q.2)=true∧Below w.heap.size w wr) (fun i _=>n - (A i).toNat)
  case atStart=>exact⟨0,s _,rfl,rfl,g _ _⟩
  case round=>
   obtain⟨k,hk,rfl,hf,hb⟩:=hrel;have HF:=m hf;clear hf;by_cases hlt:k<n
   ·obtain⟨x,b,o,hx,rfl,hc⟩:=HR.q.at_ hlt
    obtain⟨y,b',o',hy,rfl,hc'⟩:=HR'.q.at_ hlt;have h0:=aT hb rfl (hc 0 _ rfl);have h1:=aT hb rfl (hc 1 _ rfl);have h2:=aT hb rfl (hc 2 _ rfl);have h3:=aT hb rfl (hc 3 _ rfl);have h4:=aT hb rfl (hc 4 _ rfl);have h5:=aT hb rfl (hc 5 _ rfl);have h6:=aT hb rfl (hc 6 _ rfl);have h7:=aT hb rfl (hc 7 _ rfl);have h8:=aT hb rfl (hc 8 _ rfl);simp only[B] at h0;have xG:=aT hb rfl (hc' 0 _ rfl);have Ya:=aT hb rfl (hc' 1 _ rfl);have h'2:=aT hb rfl (hc' 2 _ rfl);have h'3:=aT hb rfl (hc' 3 _ rfl);have h'4:=aT hb rfl (hc' 4 _ rfl);have h'5:=aT hb rfl (hc' 5 _ rfl);have h'6:=aT hb rfl (hc' 6 _ rfl);have h'7:=aT hb rfl (hc' 7 _ rfl);have h'8:=aT hb rfl (hc' 8 _ rfl);simp only[B] at xG;have hcall:=H.q x (r hx) y (r hy);have hlb:b'<wr.heap.size:=fw xG;have HX:=m hx;have HY:=m hy;clear hc hc' hx hy
    cases hpx:p x y
    all_goals
     rw[hpx] at hcall;have HC:=m hcall;have HP:=m hpx;clear hcall hpx;go_wp2_with fail;refine(HC.q _ ((hb.alloc hb.size _).alloc (by have:=hb.size;simp;omega) _)).mono ?_;rintro e w1 ⟨rfl,hb1⟩;go_wp2_with fail
    ·go_ret
     refine⟨?_,((hb.alloc hb.size _).alloc (by have:=hb.size;simp;omega) _).trans (hb1.mono (by have:=hb.size;simp;omega))⟩;rw[GL HX.q HY.q HP.q];rfl
    ·go_roundw
     case rel=>exact⟨k+1,by omega,by go_num,CY HF.q HX.q HY.q HP.q,((hb.alloc hb.size _).alloc (by have:=hb.size;simp;omega) _).trans (hb1.mono (by have:=hb.size;simp;omega))⟩
     case measure=>simp[A];omega
   ·have hkn:k=n:=by omega
    go_wp2_with fail;go_ret;refine⟨?_,hb⟩;rw[ET HR.q.len HR'.q.len (by rw[←hkn];exact HF.q)];rfl
 ·have hne:mJ p xs ys=false:=by unfold mJ;rw[HR.q.len,HR'.q.len];simp[hl]
  have hl':((n:Int)==(n':Int))=false:=beq_eq_false_iff_ne.2 ah;have HN:=m hne;clear hne hl;go_enter func54,ntmps54;go_wp2_with fail;go_ret;refine⟨?_,g _ _⟩;rw[HN.q];rfl
end Yd
