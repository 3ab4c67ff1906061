import Derived.Test.YtiheclemhihpeaaGreatDoorZSpoken2
set_option linter.all false
set_option maxRecDepth 200000
set_option maxHeartbeats 8000000
namespace Yd
open Bool renaming false->G
open Go Go.RowKit Go.Proofs
open Below renaming refl->C
open RowKit renaming intOf->I
open Tryz renaming ntmps20->D,func20->H,prog->J,ntmps21->L,ntmps17->M,ntmps39->N,func21->O,func17->U,func39->V
theorem abr{p:Prop}(h:p:=by have Q:=K.q;have X:=P.q;rw[e,X] at Q;exact(qQ Q).symm):p:=h
theorem Ho (a t:Option Addr)(n c g c':Nat)(xs d:List Int)(w:World)(m:Row w 1 aQ a n c xs)(p:Row w 1 aQ t g c' d):
  Calls J 21 #[.slice a n c,.slice t g c'] w (bT (.bool (decide (xs=d))) w):=by
 have Z:=m.le;have R:=p.le;have q:=hid m;have r:=hid p;clear m p;by_cases s:n=g
 .subst s
  clear R;go_enter O,L;go_wp2_with fail
  go_loopw [13] (λi wr=>∃k:Nat,k<=n/\i= .int .i64 k/\xs.take k=d.take k/\Below w.1.size w wr) (λi _=>n - (I i).toNat)
  case atStart=>exact⟨0,aS _,rfl,rfl,C _ _⟩
  case round=>
   obtain⟨k,hk,rfl,u,f⟩:=hrel;have v:=hid u;clear u;by_cases z:k<n
   .have α:(0:Int)<=(k:Int):=by omega
    have β:(k:Int)<(n:Int):=by omega
    obtain⟨x,b,o,A,rfl,B⟩:=q.q.at_ z;obtain⟨y,b',o',E,rfl,F⟩:=r.q.at_ z;have S:=aZ f rfl (B 0 _ rfl);simp only[gP,bK] at S;have T:=aZ f rfl (F 0 _ rfl);simp only[gP,bK] at T;have K:=hid A;have P:=hid E;clear B F A E;by_cases j:x=y
    .subst j
     go_wp2_with fail
     go_quiet (fail)
     go_wp2_with fail;refine⟨⟨k+1,by omega,by go_num,?_,dm f _⟩,by simp[I];omega⟩;rw[eD,eD,v.q,K.q,P.q]
    .have ht:(x==y)=G:=by simpa using j
     have W:=hid j;clear j;go_wp2_with fail
     go_quiet (fail)
     go_wp2_with fail;go_ret;refine⟨?_,dm f _⟩;have l:xs≠d:=λe=>W.q abr
     rw[bn l];rfl
   .have γ:k=n:=by omega
    go_wp2_with fail;go_ret;refine⟨?_,f⟩;have e:xs=d:=by
     have h:=v.q
     rwa[eF (by rw[q.q.len];omega),eF (by rw[r.q.len];omega)] at h
    rw[bG e];rfl
 .have l:xs≠d:=λe=>s (by rw[<-q.q.len,<-r.q.len,e])
  have δ:((n:Int)==(g:Int))=G:=aN.2 ah;have Y:=hid l;clear l s;go_enter O,L;go_wp2_with fail;go_ret;refine⟨?_,C _ _⟩;rw[bn Y.q];rfl
theorem xI (a t:Option Addr)(n c g c':Nat)(xs d:List Bs)(w:World)(m:Row w 1 encStr a n c xs)(p:Row w 1 encStr t g c' d):
  Calls J 17 #[.slice a n c,.slice t g c'] w (bT (.bool (decide (xs=d))) w):=by
 have Z:=m.le;have R:=p.le;have q:=hid m;have r:=hid p;clear m p;by_cases s:n=g
 .subst s
  clear R;go_enter U,M;go_wp2_with fail
  go_loopw [13] (λi wr=>∃k:Nat,k<=n/\i= .int .i64 k/\xs.take k=d.take k/\Below w.1.size w wr) (λi _=>n - (I i).toNat)
  case atStart=>exact⟨0,aS _,rfl,rfl,C _ _⟩
  case round=>
   obtain⟨k,hk,rfl,u,f⟩:=hrel;have v:=hid u;clear u;by_cases z:k<n
   .have α:(0:Int)<=(k:Int):=by omega
    have β:(k:Int)<(n:Int):=by omega
    obtain⟨x,b,o,A,rfl,B⟩:=q.q.at_ z;obtain⟨y,b',o',E,rfl,F⟩:=r.q.at_ z;have S:=aZ f rfl (B 0 _ rfl);simp only[gP,bK] at S;have T:=aZ f rfl (F 0 _ rfl);simp only[gP,bK] at T;have K:=hid A;have P:=hid E;clear B F A E;by_cases j:x=y
    .subst j
     go_wp2_with fail
     go_quiet (fail)
     go_wp2_with fail;refine⟨⟨k+1,by omega,by go_num,?_,dm f _⟩,by simp[I];omega⟩;rw[eD,eD,v.q,K.q,P.q]
    .have ht:(x==y)=G:=by simpa using j
     have W:=hid j;clear j;go_wp2_with fail
     go_quiet (fail)
     go_wp2_with fail;go_ret;refine⟨?_,dm f _⟩;have l:xs≠d:=λe=>W.q abr
     rw[bn l];rfl
   .have γ:k=n:=by omega
    go_wp2_with fail;go_ret;refine⟨?_,f⟩;have e:xs=d:=by
     have h:=v.q
     rwa[eF (by rw[q.q.len];omega),eF (by rw[r.q.len];omega)] at h
    rw[bG e];rfl
 .have l:xs≠d:=λe=>s (by rw[<-q.q.len,<-r.q.len,e])
  have δ:((n:Int)==(g:Int))=G:=aN.2 ah;have Y:=hid l;clear l s;go_enter U,M;go_wp2_with fail;go_ret;refine⟨?_,C _ _⟩;rw[bn Y.q];rfl
theorem SY (a z:Option Addr)(n c g c':Nat)(xs f:List Sn)(w:World)(q:Row w 3 bI a n c xs)(r:Row w 3 bI z g c' f):
  Calls J 39 #[.slice a n c,.slice z g c'] w (bT (.bool (decide (xs=f))) w):=by
 have hn:=q.le;have S:=r.le;have s:=hid q;have t:=hid r;clear q r;by_cases u:n=g
 .subst u
  clear S;go_enter V,N;go_wp2_with fail
  go_loopw [13] (λi wr=>∃k:Nat,k<=n/\i= .int .i64 k/\xs.take k=f.take k/\Below w.1.size w wr) (λi _=>n - (I i).toNat)
  case atStart=>exact⟨0,aS _,rfl,rfl,C _ _⟩
  case round=>
   obtain⟨k,hk,rfl,A,d⟩:=hrel;have B:=hid A;clear A;by_cases E:k<n
   .have α:(0:Int)<=(k:Int):=by omega
    have β:(k:Int)<(n:Int):=by omega
    obtain⟨x,b,o,F,rfl,j⟩:=s.q.at_ E;obtain⟨y,b',o',K,rfl,l⟩:=t.q.at_ E;have T:=aZ d rfl (j 0 _ rfl);have v:=aZ d rfl (j 1 _ rfl);have P:=aZ d rfl (j 2 _ rfl);simp only[bK] at T;have W:=aZ d rfl (l 0 _ rfl);have γ:=aZ d rfl (l 1 _ rfl);have δ:=aZ d rfl (l 2 _ rfl);simp only[bK] at W;have Q:=hid F;have R:=hid K;clear j l F K;by_cases m:x=y
    .subst m
     go_wp2_with fail
     go_quiet (fail)
     go_wp2_with fail;refine⟨⟨k+1,by omega,by go_num,?_,dm d _⟩,by simp[I];omega⟩;rw[eD,eD,B.q,Q.q,R.q]
    .have X:=KH x y;rw[bn m] at X
     have Y:=hid m;clear m;go_wp2_with fail
     go_quiet (fail)
     go_wp2_with fail;go_ret;refine⟨?_,dm d _⟩;have p:xs≠f:=λe=>Y.q (by have v:=Q.q;have P:=R.q;rw[e,P] at v;exact(qQ v).symm)
     rw[bn p];rfl
   .have ε:k=n:=by omega
    go_wp2_with fail;go_ret;refine⟨?_,d⟩;have e:xs=f:=by
     have h:=B.q
     rwa[eF (by rw[s.q.len];omega),eF (by rw[t.q.len];omega)] at h
    rw[bG e];rfl
 .have p:xs≠f:=λe=>u (by rw[<-s.q.len,<-t.q.len,e])
  have ζ:((n:Int)==(g:Int))=G:=aN.2 ah;have Z:=hid p;clear p u;go_enter V,N;go_wp2_with fail;go_ret;refine⟨?_,C _ _⟩;rw[bn Z.q];rfl
theorem KI (a b:EvC)(xs g:List Sn)(w:World)(p:Row w 3 bI a.sa a.sn a.sc xs)(q:Row w 3 bI b.sa b.sn b.sc g):
  Calls J 20 #[gQ a,gQ b] w (bT (.bool (dD a b && decide (xs=g))) w):=by
 obtain⟨R,n⟩:∃R:Bool,R=(dD a b && decide (xs=g)):=⟨_,rfl⟩;rw[<-n];have d:=hid n;have S:=hid p;have T:=hid q;clear n p q;obtain⟨i,t,j,k,l,v,m,r,s,u⟩:=a;obtain⟨x,y,z,A,B,E,F,K,P,Q⟩:=b;by_cases h:¬i=x
 .have c:R=G:=by rw[d.q];simp[dD,h]
  subst c;have f:(i==x)=G:=aN.2 h;clear h;go_enter H,D;go_wp2_with fail;go_ret;exact⟨rfl,((C _ _).alloc (aC _) _).alloc ak _⟩
 have h:=nZ.1 h;subst h;by_cases h:¬t=y
 .have c:R=G:=by rw[d.q];simp[dD,h]
  subst c;have f:(t==y)=G:=aN.2 h;clear h;go_enter H,D;go_wp2_with fail;go_ret;exact⟨rfl,((C _ _).alloc (aC _) _).alloc ak _⟩
 have h:=nZ.1 h;subst h;by_cases h:¬j=z
 .have c:R=G:=by rw[d.q];simp[dD,h]
  subst c;have f:(j==z)=G:=aN.2 h;clear h;go_enter H,D;go_wp2_with fail;go_ret;exact⟨rfl,((C _ _).alloc (aC _) _).alloc ak _⟩
 have h:=nZ.1 h;subst h;by_cases h:¬k=A
 .have c:R=G:=by rw[d.q];simp[dD,h]
  subst c;have f:(k==A)=G:=aN.2 h;clear h;go_enter H,D;go_wp2_with fail;go_ret;exact⟨rfl,((C _ _).alloc (aC _) _).alloc ak _⟩
 have h:=nZ.1 h;subst h;by_cases h:¬l=B
 .have c:R=G:=by rw[d.q];simp[dD,h]
  subst c;have f:(l==B)=G:=aN.2 h;clear h;go_enter H,D;go_wp2_with fail;go_ret;exact⟨rfl,((C _ _).alloc (aC _) _).alloc ak _⟩
 have h:=nZ.1 h;subst h;by_cases h:¬v=E
 .have c:R=G:=by rw[d.q];simp[dD,h]
  subst c;have f:=Hl v E;rw[bn h] at f;clear h;go_enter H,D;go_wp2_with fail;go_ret;exact⟨rfl,((C _ _).alloc (aC _) _).alloc ak _⟩
 have h:=nZ.1 h;subst h;by_cases h:¬m=F
 .have c:R=G:=by rw[d.q];simp[dD,h]
  subst c;have f:(m==F)=G:=aN.2 h;clear h;go_enter H,D;go_wp2_with fail;go_ret;exact⟨rfl,((C _ _).alloc (aC _) _).alloc ak _⟩
 have h:=nZ.1 h;subst h;have c:R=decide (xs=g):=by rw[d.q];simp[dD]
 subst c;have o:=hid (((C w.1.size w).alloc (aC _) (.cells (aY ⟨i,t,j,k,l,v,m,r,s,u⟩) 50)).alloc ak (.cells (aY ⟨i,t,j,k,l,v,m,K,P,Q⟩) 50));have W:=hid (SY r K s u P Q xs g _ (S.q.below o.q rfl) (T.q.below o.q rfl));go_enter H,D
 go_wp2_with (go_at_call 39;refine W.q.mono ?_;rintro e Y ⟨rfl,X⟩)
 go_ret;exact⟨rfl,o.q.trans (X.mono (by simp;omega))⟩
end Yd
