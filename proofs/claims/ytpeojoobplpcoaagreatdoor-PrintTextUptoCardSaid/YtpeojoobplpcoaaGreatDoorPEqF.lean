import Derived.Test.YtpeojoobplpcoaaGreatDoorPRf2
set_option linter.all false
set_option maxRecDepth 200000
set_option maxHeartbeats 8000000
namespace Yd
open Go Go.RowKit Go.Proofs
open Below renaming refl->j
open RowKit renaming intOf->g
open Tryz renaming prog->d,ntmps24->l,ntmps27->m,ntmps30->r,func24->s,func27->t,func30->u
def pY {α:Type}(p:α->α->Bool)(xs ys:List α):Bool:=decide (xs.length=ys.length) && (xs.zip ys).all (λq=>p q.1 q.2)
def Wn {α:Type}(P:Program)(f:Nat)(cap:Array Value)(val:α->Value)(p:α->α->Bool)(xs ys:List α)(w:World):Prop:=
 ∀x∈xs,∀y∈ys,∀W,Below w.1.size w W->Calls P f (#[val x,val y]++cap) W (dw (.bool (p x y)) W)
theorem Uj {α:Type}{xs ys:List α}{k:Nat}{x y:α}(hx:xs[k]?=some x)(hy:ys[k]?=some y):(xs.zip ys)[k]?=some (x,y):=by
 rw[List.getElem?_zip_eq_some];exact⟨hx,hy⟩
theorem GN {α:Type}{p:α->α->Bool}{xs ys:List α}{k:Nat}{x y:α}(h:((xs.zip ys).take k).all (λq=>p q.1 q.2)=true)(hx:xs[k]?=some x)(hy:ys[k]?=some y)(hp:p x y=true):((xs.zip ys).take (k+1)).all (λq=>p q.1 q.2)=true:=by
 rw[jd,Uj hx hy];simp only[Option.toList_some,List.all_append,h,List.all_cons,hp,List.all_nil,Bool.and_self]
theorem LV {α:Type}{p:α->α->Bool}{xs ys:List α}{k:Nat}{x y:α}(hx:xs[k]?=some x)(hy:ys[k]?=some y)(hp:p x y=false):pY p xs ys=false:=by
 have hm:=dP (Uj hx hy);unfold pY;rw[Bool.and_eq_false_iff]
 right
 rw[List.all_eq_false];exact⟨(x,y),hm,by simp[hp]⟩
theorem JW {α:Type}{p:α->α->Bool}{xs ys:List α}{n:Nat}(hx:xs.length=n)(hy:ys.length=n)(h:((xs.zip ys).take n).all (λq=>p q.1 q.2)=true):pY p xs ys=true:=by
 rw[iH (by simp[hx,hy])] at h;unfold pY;rw[h,hx,hy];simp
theorem akQ (a a':Option Addr)(n c n' c' f:Nat)(cap:Array Value)(xs ys:List aM)(p:aM->aM->Bool)(w:World)(hr:Row w 2 fB a n c xs)(hr':Row w 2 fB a' n' c' ys)
  (eg:∀args w,(callFunc f args).run d w= .ok (.enter f args) w) (hp:Wn d f cap za p xs ys w):
  Calls d 24 #[.slice a n c,.slice a' n' c',.func (.func f) #[] cap] w (dw (.bool (pY p xs ys)) w):=by
 have hn:=hr.le;have hn':=hr'.le;have HR:=hid hr;have HR':=hid hr';have H:=hid hp;clear hr hr' hp;by_cases hl:n=n'
 .subst hl
  clear hn';go_enter s,l;go_wp2_with fail
  go_loopw [17] (λi wr=>∃k:Nat,k<=n/\i= .int .i64 k/\((xs.zip ys).take k).all (λq=>p q.1 q.2)=true/\Below w.1.size w wr) (λi _=>n - (g i).toNat)
  case atStart=>exact⟨0,aZ _,rfl,rfl,j _ _⟩
  case round=>
   obtain⟨k,hk,rfl,hf,hb⟩:=hrel;have HF:=hid hf;clear hf;by_cases hlt:k<n
   .obtain⟨x,b,o,hx,rfl,hc⟩:=HR.q.at_ hlt
    obtain⟨y,b',o',hy,rfl,hc'⟩:=HR'.q.at_ hlt;have h0:=bn hb rfl (hc 0 _ rfl);have h1:=bn hb rfl (hc 1 _ rfl);simp only[dM] at h0;have Au:=bn hb rfl (hc' 0 _ rfl);have h'1:=bn hb rfl (hc' 1 _ rfl);simp only[dM] at Au;have hcall:=H.q x (dP hx) y (dP hy);have hlb:b'<wr.1.size:=dR Au;have HX:=hid hx;have HY:=hid hy;clear hc hc' hx hy
    cases hpx:p x y
    all_goals
     rw[hpx] at hcall;have HC:=hid hcall;have HP:=hid hpx;clear hcall hpx;go_wp2_with fail;refine(HC.q _ ((hb.alloc hb.size _).alloc (by have:=hb.size;simp;omega) _)).mono ?_;rintro e w1 ⟨rfl,hb1⟩;go_wp2_with fail
    .go_ret
     refine⟨?_,((hb.alloc hb.size _).alloc (by have:=hb.size;simp;omega) _).trans (hb1.mono (by have:=hb.size;simp;omega))⟩;rw[LV HX.q HY.q HP.q];rfl
    .go_roundw
     case rel=>exact⟨k+1,by omega,by go_num,GN HF.q HX.q HY.q HP.q,((hb.alloc hb.size _).alloc (by have:=hb.size;simp;omega) _).trans (hb1.mono (by have:=hb.size;simp;omega))⟩
     case measure=>simp[g];omega
   .have hkn:k=n:=by omega
    go_wp2_with fail;go_ret;refine⟨?_,hb⟩;rw[JW HR.q.len HR'.q.len (by rw[<-hkn];exact HF.q)];rfl
 .have hne:pY p xs ys=false:=by unfold pY;rw[HR.q.len,HR'.q.len];simp[hl]
  have hl':((n:Int)==(n':Int))=false:=aU.2 ah;have HN:=hid hne;clear hne hl;go_enter s,l;go_wp2_with fail;go_ret;refine⟨?_,j _ _⟩;rw[HN.q];rfl
theorem akR (a a':Option Addr)(n c n' c' f:Nat)(cap:Array Value)(xs ys:List aN)(p:aN->aN->Bool)(w:World)(hr:Row w 4 fD a n c xs)(hr':Row w 4 fD a' n' c' ys)
  (eg:∀args w,(callFunc f args).run d w= .ok (.enter f args) w) (hp:Wn d f cap ze p xs ys w):
  Calls d 27 #[.slice a n c,.slice a' n' c',.func (.func f) #[] cap] w (dw (.bool (pY p xs ys)) w):=by
 have hn:=hr.le;have hn':=hr'.le;have HR:=hid hr;have HR':=hid hr';have H:=hid hp;clear hr hr' hp;by_cases hl:n=n'
 .subst hl
  clear hn';go_enter t,m;go_wp2_with fail
  go_loopw [17] (λi wr=>∃k:Nat,k<=n/\i= .int .i64 k/\((xs.zip ys).take k).all (λq=>p q.1 q.2)=true/\Below w.1.size w wr) (λi _=>n - (g i).toNat)
  case atStart=>exact⟨0,aZ _,rfl,rfl,j _ _⟩
  case round=>
   obtain⟨k,hk,rfl,hf,hb⟩:=hrel;have HF:=hid hf;clear hf;by_cases hlt:k<n
   .obtain⟨x,b,o,hx,rfl,hc⟩:=HR.q.at_ hlt
    obtain⟨y,b',o',hy,rfl,hc'⟩:=HR'.q.at_ hlt;have h0:=bn hb rfl (hc 0 _ rfl);have h1:=bn hb rfl (hc 1 _ rfl);have h2:=bn hb rfl (hc 2 _ rfl);have h3:=bn hb rfl (hc 3 _ rfl);simp only[dM] at h0;have Au:=bn hb rfl (hc' 0 _ rfl);have h'1:=bn hb rfl (hc' 1 _ rfl);have h'2:=bn hb rfl (hc' 2 _ rfl);have h'3:=bn hb rfl (hc' 3 _ rfl);simp only[dM] at Au;have hcall:=H.q x (dP hx) y (dP hy);have hlb:b'<wr.1.size:=dR Au;have HX:=hid hx;have HY:=hid hy;clear hc hc' hx hy
    cases hpx:p x y
    all_goals
     rw[hpx] at hcall;have HC:=hid hcall;have HP:=hid hpx;clear hcall hpx;go_wp2_with fail;refine(HC.q _ ((hb.alloc hb.size _).alloc (by have:=hb.size;simp;omega) _)).mono ?_;rintro e w1 ⟨rfl,hb1⟩;go_wp2_with fail
    .go_ret
     refine⟨?_,((hb.alloc hb.size _).alloc (by have:=hb.size;simp;omega) _).trans (hb1.mono (by have:=hb.size;simp;omega))⟩;rw[LV HX.q HY.q HP.q];rfl
    .go_roundw
     case rel=>exact⟨k+1,by omega,by go_num,GN HF.q HX.q HY.q HP.q,((hb.alloc hb.size _).alloc (by have:=hb.size;simp;omega) _).trans (hb1.mono (by have:=hb.size;simp;omega))⟩
     case measure=>simp[g];omega
   .have hkn:k=n:=by omega
    go_wp2_with fail;go_ret;refine⟨?_,hb⟩;rw[JW HR.q.len HR'.q.len (by rw[<-hkn];exact HF.q)];rfl
 .have hne:pY p xs ys=false:=by unfold pY;rw[HR.q.len,HR'.q.len];simp[hl]
  have hl':((n:Int)==(n':Int))=false:=aU.2 ah;have HN:=hid hne;clear hne hl;go_enter t,m;go_wp2_with fail;go_ret;refine⟨?_,j _ _⟩;rw[HN.q];rfl
theorem akS (a a':Option Addr)(n c n' c' f:Nat)(cap:Array Value)(xs ys:List EvC)(p:EvC->EvC->Bool)(w:World)(hr:Row w 9 eB a n c xs)(hr':Row w 9 eB a' n' c' ys)
  (eg:∀args w,(callFunc f args).run d w= .ok (.enter f args) w) (hp:Wn d f cap fZ p xs ys w):
  Calls d 30 #[.slice a n c,.slice a' n' c',.func (.func f) #[] cap] w (dw (.bool (pY p xs ys)) w):=by
 have hn:=hr.le;have hn':=hr'.le;have HR:=hid hr;have HR':=hid hr';have H:=hid hp;clear hr hr' hp;by_cases hl:n=n'
 .subst hl
  clear hn';go_enter u,r;go_wp2_with fail
  go_loopw [17] (λi wr=>∃k:Nat,k<=n/\i= .int .i64 k/\((xs.zip ys).take k).all (λq=>p q.1 q.2)=true/\Below w.1.size w wr) (λi _=>n - (g i).toNat)
  case atStart=>exact⟨0,aZ _,rfl,rfl,j _ _⟩
  case round=>
   obtain⟨k,hk,rfl,hf,hb⟩:=hrel;have HF:=hid hf;clear hf;by_cases hlt:k<n
   .obtain⟨x,b,o,hx,rfl,hc⟩:=HR.q.at_ hlt
    obtain⟨y,b',o',hy,rfl,hc'⟩:=HR'.q.at_ hlt;have h0:=bn hb rfl (hc 0 _ rfl);have h1:=bn hb rfl (hc 1 _ rfl);have h2:=bn hb rfl (hc 2 _ rfl);have h3:=bn hb rfl (hc 3 _ rfl);have h4:=bn hb rfl (hc 4 _ rfl);have h5:=bn hb rfl (hc 5 _ rfl);have h6:=bn hb rfl (hc 6 _ rfl);have h7:=bn hb rfl (hc 7 _ rfl);have h8:=bn hb rfl (hc 8 _ rfl);simp only[dM] at h0;have Au:=bn hb rfl (hc' 0 _ rfl);have h'1:=bn hb rfl (hc' 1 _ rfl);have h'2:=bn hb rfl (hc' 2 _ rfl);have h'3:=bn hb rfl (hc' 3 _ rfl);have h'4:=bn hb rfl (hc' 4 _ rfl);have h'5:=bn hb rfl (hc' 5 _ rfl);have h'6:=bn hb rfl (hc' 6 _ rfl);have h'7:=bn hb rfl (hc' 7 _ rfl);have h'8:=bn hb rfl (hc' 8 _ rfl);simp only[dM] at Au;have hcall:=H.q x (dP hx) y (dP hy);have hlb:b'<wr.1.size:=dR Au;have HX:=hid hx;have HY:=hid hy;clear hc hc' hx hy
    cases hpx:p x y
    all_goals
     rw[hpx] at hcall;have HC:=hid hcall;have HP:=hid hpx;clear hcall hpx;go_wp2_with fail;refine(HC.q _ ((hb.alloc hb.size _).alloc (by have:=hb.size;simp;omega) _)).mono ?_;rintro e w1 ⟨rfl,hb1⟩;go_wp2_with fail
    .go_ret
     refine⟨?_,((hb.alloc hb.size _).alloc (by have:=hb.size;simp;omega) _).trans (hb1.mono (by have:=hb.size;simp;omega))⟩;rw[LV HX.q HY.q HP.q];rfl
    .go_roundw
     case rel=>exact⟨k+1,by omega,by go_num,GN HF.q HX.q HY.q HP.q,((hb.alloc hb.size _).alloc (by have:=hb.size;simp;omega) _).trans (hb1.mono (by have:=hb.size;simp;omega))⟩
     case measure=>simp[g];omega
   .have hkn:k=n:=by omega
    go_wp2_with fail;go_ret;refine⟨?_,hb⟩;rw[JW HR.q.len HR'.q.len (by rw[<-hkn];exact HF.q)];rfl
 .have hne:pY p xs ys=false:=by unfold pY;rw[HR.q.len,HR'.q.len];simp[hl]
  have hl':((n:Int)==(n':Int))=false:=aU.2 ah;have HN:=hid hne;clear hne hl;go_enter u,r;go_wp2_with fail;go_ret;refine⟨?_,j _ _⟩;rw[HN.q];rfl
end Yd
