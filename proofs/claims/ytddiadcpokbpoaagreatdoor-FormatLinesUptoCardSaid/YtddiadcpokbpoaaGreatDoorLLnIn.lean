import Derived.Test.YtddiadcpokbpoaaGreatDoorLOwnPut
import Derived.Laws.RangeString
import Derived.Lib.MapLaws
import Derived.Lib.AtoiAllCases
import Derived.Lib.AtoiErrMem
import Derived.Laws.Externs
set_option linter.all false
set_option maxRecDepth 200000
set_option maxHeartbeats 8000000
namespace Yd
open Bool renaming false->o,true->u
open Go Go.RowKit Go.Proofs Tryz
open Below renaming refl->t
open Tryz renaming prog->z
open Utf8 renaming decode->f,valid->x,encode->y
open _root_ renaming ByteArray->j,Int->k
theorem agE (a b c:UInt8)(r:List UInt8):ByteArray.extract ⟨⟨a::b::c::r⟩⟩ 0 3=⟨#[a,b,c]⟩:=by
 apply ByteArray.ext
 simp[ByteArray.data_extract]
theorem adL (a b c:UInt8):ByteArray.toList ⟨#[a,b,c]⟩=[a,b,c]:=by
 unfold ByteArray.toList;rw[ByteArray.toList.loop,ay (by show 0<3;decide),ByteArray.toList.loop,ay (by show 1<3;decide),ByteArray.toList.loop,ay (by show 2<3;decide),ByteArray.toList.loop,ak (by show ¬3<3;decide)]
 rfl
theorem adM (s:j)(h3:3<=s.size)(h:¬s.extract 0 3=⟨#[239,191,189]⟩):((s.extract 0 3).toList==[239,191,189])=o:=by
 obtain⟨⟨l⟩⟩:=s
 match l,h3 with
 |a::b::c::r,_=>
  rw[agE] at h ⊢;rw[adL];refine aR.2 (λe=>h ?_);simp only[List.cons.injEq,and_true] at e;rw[e.1,e.2.1,e.2.2]
theorem Zv (s:j)(h3:3<=s.size)(hr:(f s 0).1=65533):(f s 0).2=3↔s.extract 0 3=⟨#[239,191,189]⟩:=by
 obtain⟨⟨l⟩⟩:=s
 match l,h3 with
 |a::b::c::r,_=>
  have ha:ByteArray.get! ⟨⟨a::b::c::r⟩⟩ (0+0)=a:=rfl;have hb:ByteArray.get! ⟨⟨a::b::c::r⟩⟩ (0+1)=b:=rfl;have hc:ByteArray.get! ⟨⟨a::b::c::r⟩⟩ (0+2)=c:=rfl;have k0:=a.toNat_lt;have k1:=b.toNat_lt;have k2:=c.toNat_lt;have hsz:ByteArray.size ⟨⟨a::b::c::r⟩⟩=r.length+3:=rfl;rw[agE];have hiff:((⟨#[a,b,c]⟩:j)=⟨#[239,191,189]⟩)↔(a.toNat=239/\b.toNat=191/\c.toNat=189):=by
   constructor
   .intro h
    injection h with h;simp at h;obtain⟨rfl,rfl,rfl⟩:=h
    decide
   .rintro⟨h1,h2,h3⟩
    have e1:a=239:=mV.1 h1;have e2:b=191:=mV.1 h2;have e3:c=189:=mV.1 h3;rw[e1,e2,e3]
  rw[hiff]
  constructor
  .intro h
   unfold f at h hr;simp only[ha,hb,hc] at h hr
   split at h
   .simp at h
   rename_i g0
   rw[ak g0] at hr
   split at h
   .split at h <;> simp at h
   rename_i g1
   rw[ak g1] at hr
   split at h
   .rename_i g2
    rw[ay g2] at hr
    split at h
    .rename_i g3
     rw[ay g3] at hr;simp only[aU,bf,xX] at g2 hr;omega
    .simp at h
   rename_i g2
   split at h
   .split at h <;> simp at h
   .simp at h
  .rintro⟨h1,h2,h3⟩
   unfold f;simp only[ha,hb,hc,h1,h2,h3,hsz];simp[x]
attribute [local go_sem] Oper.semAt_some
theorem KF (r:k)(w:World):Calls z 96 #[.int .i32 r] w (cK (.bool (iQ r)) w):=by
 by_cases h0:r=95
 .subst h0
  go_enter func96,ntmps96;go_wp2_with fail;go_ret;exact⟨by simp[iQ],t _ _⟩
 have hb:(r==95)=o:=aR.2 h0;by_cases h1:97<=r <;> by_cases h2:r<=122 <;> by_cases h3:65<=r <;> by_cases h4:r<=90 <;> by_cases h5:128<=r
 all_goals first
  |(exfalso;omega)
  |(go_enter func96,ntmps96;go_wp2_with fail;go_ret;exact⟨by simp[iQ,h0,h1,h2,h3,h4,h5],t _ _⟩)
theorem Gp (r:k)(w:World):Calls z 97 #[.int .i32 r] w (cK (.bool (gq r)) w):=by
 by_cases h1:48<=r <;> by_cases h2:r<=57
 all_goals
  go_enter func97,ntmps97;go_wp2_with fail;go_ret;exact⟨by simp[gq,h1,h2],t _ _⟩
def zq (s:j):k:=if 0<s.size then(if okB s 0=u then((f s 0).1:k) else -1) else -1
def BK (s:j):k:=if 0<s.size then(if okB s 0=u then((f s 0).2:k) else 1) else 0
theorem Pp (w:World)(s:j)(ty:TypeId)(h:0<s.size):
  (Instr.next (.pointer (some ⟨w.1.size,0,none⟩)) u ty).run z (w.iter s 0)= .ok (.tuple #[.bool u,.int .i64 0,.int .i32 ((f s 0).1:k)]) (w.iter s (f s 0).2):=by
 simp only[Instr.next,getObj,setObj,Sem.run_bind,Sem.run,World.iter_heap,Result.andThen,h,dw,World.iter_set];simp[goInt]
theorem Gq (s:j)(i:Nat):f s i=(65533,1)\/((f s i).1<128/\(f s i).2=1)\/(128<=(f s i).1/\(f s i).1<2048/\(f s i).2=2)\/
  (2048<=(f s i).1/\(f s i).1<65536/\x ((f s i).1:k)=u/\(f s i).2=3)\/(65536<=(f s i).1/\x ((f s i).1:k)=u/\(f s i).2=4):=by
 unfold f;simp only[];have k0:=(s.get! (i+0)).toNat_lt
 split
 .right;left;simp;omega
 split
 .split
  .right;right;left;refine⟨by simpa using ‹_›,?_,rfl⟩;simp only[];omega
  .left;rfl
 split
 .split
  .rename_i h
   simp only[aU,bf,ge_iff_le] at h
   right;right;right;left;refine⟨h.1,?_,h.2,rfl⟩;simp only[];omega
  .left;rfl
 split
 .split
  .rename_i h
   simp only[aU,bf,ge_iff_le] at h
   right;right;right;right;exact⟨h.1,h.2,rfl⟩
  .left;rfl
 .left;rfl
theorem Pq {s:j}{i:Nat}(h:okB s i=u):(y ((f s i).1:k)).size=(f s i).2:=by
 unfold okB at h;rcases Gq s i with e|⟨e1,e2⟩|⟨e1,e2,e3⟩|⟨e1,e2,e3,e4⟩|⟨e1,e2,e3⟩
 .rw[e] at h;simp at h
 .have hv:x ((f s i).1:k)=u:=by simp[x];omega
  unfold y;simp only[hv,dw,kS];rw[ay ah,e2];rfl
 .have hv:x ((f s i).1:k)=u:=by simp[x];omega
  unfold y;simp only[hv,dw,kS];rw[ak ah,ay ah,e3];rfl
 .unfold y
  simp only[e3,dw,kS];rw[ak ah,ak ah,ay ah,e4];rfl
 .unfold y
  simp only[e2,dw,kS];rw[ak ah,ak ah,ak ah,e3];rfl
theorem Xj (s:j)(h:(f s 0).2=3):3<=s.size:=by
 unfold f at h;simp only[] at h
 split at h
 .simp at h
 split at h
 .split at h <;> simp at h
 split at h
 .rename_i g
  simp only[aU,bf] at g;omega
 split at h
 .split at h <;> simp at h
 .simp at h
theorem Mx (s:j)(w:World):Calls z 95 #[.string s] w λe w'=>e= .returned (.tuple #[.int .i32 (zq s),.int .i64 (BK s)])/\Below w.1.size w w':=by
 by_cases hp:0<s.size
 .obtain⟨r,hr⟩:∃r:k,r=((f s 0).1:k):=⟨_,rfl⟩
  have hnx:=Pp w s 0 hp;rw[<-hr] at hnx;have bE:Hid (Below w.1.size w (w.iter s (f s 0).2)):=hid ((t _ _).alloc (aA _) _);by_cases h5:r=65533
  .subst h5
   have hr':(f s 0).1=65533:=by omega
   by_cases h3:(f s 0).2=3
   .have hsz:=Xj s h3
    have hext:=(Zv s hsz hr').1 h3;have hok:okB s 0=u:=by unfold okB;rw[hr',h3];decide
    have he:=Pq hok;rw[<-hr,h3] at he;have HF:Hid (zq s=65533/\BK s=3):=hid (by simp[zq,BK,hp,hok,hr',h3]);have hlt:¬((s.size:k)<3):=by omega
    clear hr hok hr' h3 hp;go_enter func95,ntmps95;go_wp2_with fail
    go_loopw [3] (λv wr=>v= .int .i64 0/\wr=w.iter s 0) (λ_ _=>0)
    case atStart=>exact⟨rfl,rfl⟩
    case round=>
     obtain⟨rfl,rfl⟩:=hrel;go_wp2_with fail
     go_ret2
     refine⟨?_,bE.q⟩;rw[HF.q.1,HF.q.2]
     rfl
   .have h1:(f s 0).2=1:=by
     rcases Gq s 0 with e|⟨e1,e2⟩|⟨e1,e2,e3⟩|⟨e1,e2,e3,e4⟩|⟨e1,e2,e3⟩
     .rw[e]
     .exact e2
     .omega
     .omega
     .omega
    have hok:okB s 0=o:=by unfold okB;rw[hr',h1];decide
    have HF:Hid (zq s= -1/\BK s=1):=hid (by simp[zq,BK,hp,hok]);by_cases hsz:(s.size:k)<3
    .skip
     clear hr hok hr' h3 h1 hp;go_enter func95,ntmps95;go_wp2_with fail
     go_loopw [3] (λv wr=>v= .int .i64 0/\wr=w.iter s 0) (λ_ _=>0)
     case atStart=>exact⟨rfl,rfl⟩
     case round=>
      obtain⟨rfl,rfl⟩:=hrel;go_wp2_with fail
      go_ret2
      refine⟨?_,bE.q⟩;rw[HF.q.1,HF.q.2]
      rfl
    .have hext:¬s.extract 0 3=⟨#[239,191,189]⟩:=λe=>h3 ((Zv s ah hr').2 e)
     have an4:3<=s.size:=by omega
     have asP:=adM s an4 hext;clear hr hok hr' h3 h1 hp;go_enter func95,ntmps95;go_wp2_with fail
     go_loopw [3] (λv wr=>v= .int .i64 0/\wr=w.iter s 0) (λ_ _=>0)
     case atStart=>exact⟨rfl,rfl⟩
     case round=>
      obtain⟨rfl,rfl⟩:=hrel;go_wp2_with fail
      go_ret2
      refine⟨?_,bE.q⟩;rw[HF.q.1,HF.q.2]
      rfl
  .have hb:(r==65533)=o:=aR.2 h5
   have hok:okB s 0=u:=by unfold okB;rw[<-hr,hb];rfl
   have he:=Pq hok;rw[<-hr] at he;have HF:Hid (zq s=r/\BK s=((f s 0).2:k)):=hid (by simp[zq,BK,hp,hok,hr]);have HE:=hid he;clear hr hok he hp;go_enter func95,ntmps95;go_wp2_with fail
   go_loopw [3] (λv wr=>v= .int .i64 0/\wr=w.iter s 0) (λ_ _=>0)
   case atStart=>exact⟨rfl,rfl⟩
   case round=>
    obtain⟨rfl,rfl⟩:=hrel;go_wp2_with fail
    go_ret2
    refine⟨?_,bE.q⟩;rw[HF.q.1,HF.q.2];rw[<-HE.q];rfl
 .have hz:s.size=0:=by omega
  have hnx:(Instr.next (.pointer (some ⟨w.1.size,0,none⟩)) u 0).run z (w.iter s 0)= .ok (.tuple #[.bool o]) (w.iter s 0):=run_next_end w s 0 0 hp;have HF:Hid (zq s= -1/\BK s=0):=hid (by simp[zq,BK,hz]);have bE:Hid (Below w.1.size w (w.iter s 0)):=hid ((t _ _).alloc (aA _) _);clear hz hp;go_enter func95,ntmps95;go_wp2_with fail
  go_loopw [3] (λv wr=>v= .int .i64 0/\wr=w.iter s 0) (λ_ _=>0)
  case atStart=>exact⟨rfl,rfl⟩
  case round=>
   obtain⟨rfl,rfl⟩:=hrel;go_wp2_with fail
   go_ret2
   refine⟨?_,bE.q⟩;rw[HF.q.1,HF.q.2]
   rfl
def MB (s:j)(pos:Nat):Bool:=okB s pos && (iQ ((f s pos).1:k)||(!decide (pos=0) && gq ((f s pos).1:k)))
def rW (s:j):Nat->Nat->Bool
 |0,_=>u
 |n+1,pos=>if pos<s.size then MB s pos && rW s n (pos+(f s pos).2) else u
def vG (s:j):Bool:=decide (0<s.size) && decide (s.size<=24) && rW s s.size 0
theorem Lb (s:j)(i:Nat):1<=(f s i).2/\(f s i).2<=4:=by
 rcases Gq s i with e|⟨e1,e2⟩|⟨e1,e2,e3⟩|⟨e1,e2,e3,e4⟩|⟨e1,e2,e3⟩
 .rw[e];decide
 .omega
 .omega
 .omega
 .omega
theorem adN (s:j)(n pos:Nat)(h:s.size<=pos):rW s n pos=u:=by
 cases n with
 |zero=>rfl
 |succ n=>simp only[rW];rw[ak ah]
theorem adO (s:j)(pos:Nat):okB (s.extract pos s.size) 0=okB s pos:=by unfold okB;rw[Lib.tail_decode,bM]
theorem ZP (s:j)(pos:Nat)(h:pos<s.size):zq (s.extract pos s.size)=(if okB s pos=u then((f s pos).1:k) else -1)/\BK (s.extract pos s.size)=(if okB s pos=u then((f s pos).2:k) else 1):=by
 have hp:0<(s.extract pos s.size).size:=by rw[Lib.tail_size];omega
 unfold zq BK;rw[ay hp,ay hp,adO,Lib.tail_decode,bM];exact⟨rfl,rfl⟩
theorem Pt (s:j):∀(n i:Nat)(acc:List UInt8),s.size - i=n->(ByteArray.toList.loop s i acc).length=acc.length+n
 |0,i,acc,h=>by rw[ByteArray.toList.loop,ak ah];simp
 |n+1,i,acc,h=>by rw[ByteArray.toList.loop,ay ah,Pt s n (i+1) _ ah];simp;omega
theorem EG (s:j):s.toList.length=s.size:=by
 unfold ByteArray.toList;rw[Pt s s.size 0 [] ah];simp
theorem Bo (s:j)(w:World):Calls z 49 #[.string s] w (cK (.bool (vG s)) w):=by
 by_cases h0:s.toList=[]
 .have hz:¬0<s.size:=by rw[<-EG,h0];simp
  have hq:vG s=o:=by simp[vG,hz]
  rw[hq];clear hq hz;go_enter func49,ntmps49;go_wp2_with fail;go_ret;exact⟨rfl,t _ _⟩
 have h1:s.toList.isEmpty=o:=by simp[h0]
 have hs:=Fw s h0;by_cases wB:(s.size:k)<=24
 .obtain⟨R,hR⟩:∃R:Bool,R=rW s s.size 0:=⟨_,rfl⟩
  have hq:vG s=R:=by rw[vG,<-hR];simp[hs,show s.size<=24 by omega]
  rw[hq];have HR:=hid hR;clear hq hR;go_enter func49,ntmps49;go_wp2_with fail
  go_loopw [3] (λi wr=>∃pos n:Nat,i= .int .i64 pos/\pos<=28/\s.size<=pos+n/\R=rW s n pos/\Below w.1.size w wr) (λi _=>40 - (RowKit.intOf i).toNat)
  case atStart=>exact⟨0,s.size,rfl,by decide,by omega,HR.q,t _ _⟩
  case round=>
   obtain⟨pos,n,rfl,asQ,hn,hrw,hbw⟩:=hrel;by_cases hlt:pos<s.size
   .obtain⟨m,rfl⟩:∃m,n=m+1:=⟨n - 1,by omega⟩
    have hlt':(pos:k)<s.size:=by omega
    obtain⟨d,hd⟩:∃d,d=(f s pos).2:=⟨_,rfl⟩;obtain⟨d1,d4⟩:=Lb s pos;rw[<-hd] at d1 d4;simp only[rW] at hrw;rw[ay hlt,<-hd] at hrw;obtain⟨f1,f2⟩:=ZP s pos hlt;have HW:=hid hbw;have hsl:(s.size:k) - pos<=24:=by omega
    cases hok:okB s pos
    .have hkr:MB s pos=o:=by simp[MB,hok]
     rw[hok] at f1 f2;simp only[Ea,fE] at f1 f2;have HR2:Hid (R=o):=hid (by rw[hrw,hkr];rfl);have HF:=hid (⟨f1,f2⟩:_/\_);clear hrw hd f1 f2 hok hkr hbw
     go_wp2_with (go_at_call 95;refine(Mx _ _).mono ?_;rintro e w1 ⟨rfl,hb1⟩;rw[HF.q.1,HF.q.2];have HB1:=hid (HW.q.bO hb1);clear hb1)
     refine(KF _ _).mono ?_;rintro e w2 ⟨rfl,hb2⟩;have HB2:=hid (HB1.q.bO hb2);clear hb2;rw[show iQ (-1)=o from by decide];by_cases hz:pos=0
     .subst hz
      go_wp2_with fail;go_ret;exact⟨by rw[HR2.q];rfl,HB2.q⟩
     .have hzb:((pos:k)==0)=o:=aR.2 ah
      go_wp2_with (go_at_call 97;refine(Gp _ _).mono ?_;rintro e w3 ⟨rfl,hb3⟩;rw[show gq (-1)=o from by decide];have HB3:=hid (HB2.q.bO hb3);clear hb3)
      go_ret;exact⟨by rw[HR2.q];rfl,HB3.q⟩
    .rw[hok] at f1 f2
     simp only[dw] at f1 f2;rw[<-hd] at f2;obtain⟨r,hr⟩:∃r:k,r=((f s pos).1:k):=⟨_,rfl⟩;rw[<-hr] at f1;have hkr:MB s pos=(iQ r||(!decide (pos=0) && gq r)):=by simp[MB,hok,hr]
     rw[hkr] at hrw;have HF:=hid (⟨f1,f2⟩:_/\_);have HRW:=hid hrw;clear hrw hd f1 f2 hok hkr hbw hr
     go_wp2_with (go_at_call 95;refine(Mx _ _).mono ?_;rintro e w1 ⟨rfl,hb1⟩;rw[HF.q.1,HF.q.2];have HB1:=hid (HW.q.bO hb1);clear hb1)
     refine(KF _ _).mono ?_;rintro e w2 ⟨rfl,hb2⟩;have HB2:=hid (HB1.q.bO hb2);clear hb2
     cases hl:iQ r
     .by_cases hz:pos=0
      .subst hz
       have HR2:Hid (R=o):=hid (by rw[HRW.q,hl];simp);clear hl;go_wp2_with fail;go_ret;exact⟨by rw[HR2.q];rfl,HB2.q⟩
      .have hzb:((pos:k)==0)=o:=aR.2 ah
       cases hnb:gq r
       .have HR2:Hid (R=o):=hid (by rw[HRW.q,hl,hnb];simp)
        have zN:=hid hnb;clear hl hnb
        go_wp2_with (go_at_call 97;refine(Gp _ _).mono ?_;rintro e w3 ⟨rfl,hb3⟩;rw[zN.q];have HB3:=hid (HB2.q.bO hb3);clear hb3)
        go_ret;exact⟨by rw[HR2.q];rfl,HB3.q⟩
       .have HR2:Hid (R=rW s m (pos+d)):=hid (by rw[HRW.q,hl,hnb];simp[hz])
        have zN:=hid hnb;clear hl hnb
        go_wp2_with (go_at_call 97;refine(Gp _ _).mono ?_;rintro e w3 ⟨rfl,hb3⟩;rw[zN.q];have HB3:=hid (HB2.q.bO hb3);clear hb3)
        go_roundw
        case rel=>exact⟨pos+d,m,by go_num,by omega,by omega,HR2.q,HB3.q⟩
        case measure=>simp[RowKit.intOf];omega
     .have HR2:Hid (R=rW s m (pos+d)):=hid (by rw[HRW.q,hl];simp)
      clear hl;go_wp2_with fail;go_roundw
      case rel=>exact⟨pos+d,m,by go_num,by omega,by omega,HR2.q,HB2.q⟩
      case measure=>simp[RowKit.intOf];omega
   .have hge:¬((pos:k)<s.size):=by omega
    have HR2:Hid (R=u):=hid (by rw[hrw];exact adN s n pos ah);have HW:=hid hbw;clear hrw hbw;go_wp2_with fail;go_ret;exact⟨by rw[HR2.q];rfl,HW.q⟩
 .have hq:vG s=o:=by simp[vG,show ¬s.size<=24 by omega]
  rw[hq];clear hq;have anX:24<(s.size:k):=by omega
  clear wB;go_enter func49,ntmps49;go_wp2_with fail;go_ret;exact⟨rfl,t _ _⟩
theorem adP (s:j)(h:128<=(s.get! (0+0)).toNat):128<=(f s 0).1:=by
 unfold f;simp only[];rw[ak ah]
 split
 .split
  .simpa using ‹_›
  .decide
 split
 .split
  .rename_i g
   simp only[aU,bf,ge_iff_le] at g;simp only[];omega
  .decide
 split
 .split
  .rename_i g
   simp only[aU,bf,ge_iff_le] at g;simp only[];omega
  .decide
 .decide
theorem Sy (r:k):iQ r=(!gq r && jY r):=by
 have h:iQ r=u->gq r=o:=by
  simp only[iQ,gq,Az,aU,bf,Bool.and_eq_false_iff,decide_eq_false_iff_not];omega
 unfold jY
 cases h1:iQ r
 .cases gq r <;> rfl
 .rw[h h1];rfl
theorem Xl (s:j):∀(n pos:Nat),0<pos->rW s n pos=(bN s n pos).all (λp=>okB s p && jY ((f s p).1:k))
 |0,_,_=>rfl
 |n+1,pos,h=>by
  simp only[rW,bN]
  split
  .rw[List.all_cons,Xl s n _ (by have:=Lb s pos;omega),MB]
   simp[show pos≠0 by omega,jY]
  .rfl
theorem Xm (s:j):∀(n pos:Nat),∀p∈bN s n pos,p<s.size
 |0,_,_,h=>by simp[bN] at h
 |n+1,pos,p,h=>by
  simp only[bN] at h
  split at h
  .rcases dP.1 h with rfl|h
   .assumption
   .exact Xm s n _ p h
  .simp at h
theorem Xn (s:j)(p:k->Bool):decide (iy s p=s.size)=(bN s s.size 0).all (λq=>okB s q && p ((f s q).1:k)):=by
 unfold iy
 cases hf:(bN s s.size 0).find? (qj s p) with
 |none=>
  rw[List.find?_eq_none] at hf;simp only[Option.getD_none,decide_true]
  symm
  rw[jc];intro q hq;have:=hf q hq
  simpa[qj] using this
 |some q=>
  have hq:=List.mem_of_find?_eq_some hf;have hs:=List.find?_some hf;have hl:=Xm s _ _ q hq;simp only[Option.getD_some];rw[show decide (q=s.size)=o from aX ah]
  symm
  rw[<-Bool.not_eq_true,jc];intro h;have:=h q hq;unfold qj at hs;rw[this] at hs
  cases hs
theorem yw (s:j):vG s=bD s:=by
 unfold vG bD;rw[Xn];have e1:(!s.toList.isEmpty)=decide (0<s.size):=by
  rw[<-EG]
  cases s.toList <;> simp
 rw[e1,show decide ((s.size:k)<=24)=decide (s.size<=24) from decide_eq_decide.2 ah];by_cases hp:0<s.size
 .obtain⟨m,hm⟩:∃m,s.size=m+1:=⟨s.size - 1,by omega⟩
  have hkey:rW s s.size 0=(!gq (uN s) && (bN s s.size 0).all (λq=>okB s q && jY ((f s q).1:k))):=by
   rw[hm];simp only[rW,bN];rw[ay hp,ay hp,List.all_cons,Xl s m _ (by have:=Lb s 0;omega)];have hr:MB s 0=(!gq (uN s) && (okB s 0 && jY ((f s 0).1:k))):=by
    have hg:s.get! (0+0)=s[0]'hp:=by
     show s.get! 0=_;simp[ByteArray.get!,getElem!_pos,hp]
     rfl
    have hk:=(s[0]'hp).toNat_lt;have hf:uN s=((s[0]'hp).toNat:k):=by
     unfold uN;rw[dif_pos hp];unfold wrap32;omega
    unfold MB;simp only[decide_true,Bool.not_true,Bool.false_and,Bool.or_false];by_cases ha:(s[0]'hp).toNat<128
    .have hd:=decode_ascii s 0 hp ha
     rw[hd,hf,Sy];simp only[]
     cases okB s 0 <;> cases gq ((s[0]'hp).toNat:k) <;> rfl
    .have hd:=adP s (by rw[hg];omega)
     have n1:gq (uN s)=o:=by rw[hf];simp[gq];omega
     have n2:gq ((f s 0).1:k)=o:=by simp[gq];omega
     rw[n1,Sy,n2]
     cases okB s 0 <;> rfl
   rw[hr];simp only[Bb]
  rw[hkey];simp only[Bb]
 .simp[hp]
end Yd
namespace Yd
open Go Go.RowKit Go.Proofs
attribute [local go_sem] Oper.semAt_some
theorem ade (n:Int)(w:World):Calls Tryz.prog 51 #[.int .i64 n] w (cK (.bool (fF n)) w):=by
 by_cases h1:1<=n <;> by_cases h2:n<=4
 all_goals
  go_enter Tryz.func51,Tryz.ntmps51;go_wp2_with fail;go_ret;exact⟨by simp[fF,h1,h2],Below.refl _ _⟩
end Yd
namespace Yd
open Go Go.RowKit Go.Proofs
@[reducible] def ajC (k:Int)(a:Option Addr)(c:Nat):bB:=⟨k,a,1,c,0,none,0,0,false,0⟩
structure asR (e:EvC)(w:World)(x:Bs)(b5:Nat)(a:Option Addr)(c:Nat)(Z:World):Prop where
 be:Bx Z w.1.size (aY e)
 br:Bx Z (w.1.size+1) #[.int .i64 0,.slice none 0 0,.int .i64 0,.slice none 0 0,.bool false,.int .i64 0]
 c5:Bx Z b5 (kg (ajC e.kind a c))
 on:Own Z w.1.size 9 1 encStr (.slice a 1 c) [x]
 fn:∀g,(Value.slice a 1 c).ownBlock=some g->g≠w.1.size/\g≠w.1.size+1/\g≠b5
 le:w.1.size+2<=b5
 bw:Below w.1.size w Z
attribute [local go_sem] Oper.semAt_some
end Yd
namespace Yd
open Bool renaming false->C,true->L
open Option renaming some->I
open Go Go.RowKit Go.Proofs Tryz
open Below renaming refl->S
open Go renaming World->O,Calls->U
open Go.IntKind renaming i64->J
open Go.Value renaming bool->D,int->M,string->V
open RowKit renaming intOf->F
open Tryz renaming underlying9->B,prog->E
open Utf8 renaming decode->G
open Value renaming int->Q
open Yd renaming hid->g
open _root_ renaming Int->A,Nat->H,UInt8->Z
def Di (w:O)(l:bB)(s:aP):Prop:=
 (l.kind=s.kind/\l.lvl=s.lvl/\l.first=s.first/\l.bits=s.bits)/\Row w 1 encStr l.na l.nn l.nc s.names/\Row w 2 pE l.va l.vn l.vc s.aF
theorem Di.below {w w':O}{l:bB}{s:aP}(h:Di w l s)(hb:Below w.1.size w w'):Di w' l s:=⟨h.1,h.2.1.below hb rfl,h.2.2.below hb rfl⟩
theorem Row.Sz {α:Type}{enc:α->List Value}{w:O}{k:H}{a:Option Addr}{n c:H}{xs:List α}(h:Row w k enc a n c xs)(K:H):Row w k enc a (xs.take K).length c (xs.take K):=by
 obtain⟨h1,h2,h3,h4,h5⟩:=h;refine⟨rfl,by rw[dN];omega,by rw[dN];omega,h4,λi x hx=>?_⟩;rw[AB] at hx
 split at hx
 .exact h5 i x hx
 .cases hx
def KG (acc:H)(l:Bs):H:=l.foldl (λn c=>n*10+(c.toNat - 48)) acc
theorem SA:∀(l:Bs)(acc:H),acc<=KG acc l
 |[],_=>aA _
 |c::r,acc=>dL ah (SA r (acc*10+(c.toNat - 48)))
theorem IW:∀(l:Bs)(acc:H),(∀c∈l,jR c=L)->Lib.parseUint10 acc l= .ok (KG acc l)\/(Lib.parseUint10 acc l= .range/\1000000<=KG acc l)
 |[],_,_=> .inl rfl
 |c::r,acc,h=>by
  have hc:=h c au;have hc':48<=c.toNat/\c.toNat<=57:=by
   unfold jR at hc;simp only[aU,bf] at hc;exact hc
  have hg:=SA r (acc*10+(c.toNat - 48));unfold Lib.parseUint10;rw[ay hc']
  split
  .exact .inr ⟨rfl,dL ah hg⟩
  .split
   .exact .inr ⟨rfl,dL ah hg⟩
   .exact IW r _ (λx hx=>h x (by simp[hx]))
theorem QK (l:Bs)(hne:l≠[])(h:∀c∈l,jR c=L):Lib.atoiAll l= .ok (vR l:A)\/(Lib.atoiAll l= .range/\1000000<=vR l):=by
 cases l with
 |nil=>exact absurd rfl hne
 |cons c r=>
  have hc:=h c au;unfold jR at hc;simp only[aU,bf] at hc;have h1:48<=c.toNat:=hc.1;unfold Lib.atoiAll;simp only[];rw[ak ah];unfold Lib.parseMag;rw[ak au];have hv:vR (c::r)=KG 0 (c::r):=rfl;rcases IW (c::r) 0 h with e|⟨e,e2⟩
  .rw[e]
   simp only[];by_cases hb:9223372036854775808<=KG 0 (c::r)
   .rw[ay ⟨by omega,hb⟩];exact .inr ⟨rfl,by rw[hv];omega⟩
   .rw[ak ah,ak ah,ak ah];exact .inl (by rw[hv])
  .rw[e];exact .inr ⟨rfl,e2⟩
def AP (w:O):Prop:=∃ev,w.cell? ⟨8,0,none⟩=I ev/\(ev= .nilIface\/∃te pe,ev= .iface te pe)
theorem AP.below {w w':O}(h:AP w)(hb:Below w.1.size w w'):AP w':=let⟨ev,h1,h2⟩:=h;⟨ev,bn hb rfl h1,h2⟩
theorem ac6 (l:Bs)(hne:l≠[])(h:∀c∈l,jR c=L)(hlim:l.length<=1000000)(w:O)(hE:AP w):
  U E 174 #[V ⟨l.toArray⟩] w λe w'=>∃(k:A)(er:Value),e= .returned (.tuple #[M J k,er])/\Below w.1.size w w'/\((er= .nilIface/\k=(vR l:A)/\vR l<=9223372036854775807)\/(999<vR l/\∃T p,er= .iface T p)):=by
 obtain⟨ev,hv,hev⟩:=hE;rcases QK l hne h with e|⟨e,e2⟩
 .refine(Tryz.strconv_Atoi_ok ⟨l.toArray⟩ (by rw[iM];omega) (vR l) e w).mono ?_
  rintro e w' ⟨rfl,hw⟩;refine⟨_,_,rfl,?_,.inl ⟨rfl,rfl,?_⟩⟩
  .rcases hw with rfl|⟨t,rfl⟩
   .exact S _ _
   .exact Lib.bytesWorld_below _ _ _
  .have:=(Lib.atoiAll_bounds e).2;omega
 .refine(Tryz.strconv_Atoi_range ⟨l.toArray⟩ (by rw[iM];omega) e ev w hv hev).mono ?_
  rintro e w' ⟨N,rfl,_,_,hb⟩;exact⟨_,_,rfl,hb,.inr ⟨by omega,_,_,rfl⟩⟩
theorem KH (c:H)(hc:c<=1114111)(hs:¬(55296<=c/\c<=57343)):Utf8.encode (c:A)=⟨(Lib.encodeRune (c:A)).toArray⟩:=by
 have hv:Utf8.valid (c:A)=L:=by simp[Utf8.valid];omega
 unfold Utf8.encode Lib.encodeRune;simp only[hv,dw,kS];have hb:∀(z:A)(n:H),z=(n:A)->z.toNat.toUInt8=UInt8.ofNat n:=λz n h=>by subst h;simp
 by_cases h1:c<128
 .rw[ay h1,Lib.encodeRuneZ_one ah ah]
  simp only[lD,mU,hb _ c rfl]
 rw[ak h1];by_cases h2:c<2048
 .rw[ay h2,Lib.encodeRuneZ_two ah ah]
  simp only[lD,mU,hb (192+(c:A) / 64) (192+c / 64) ah,hb (128+(c:A) % 64) (128+c % 64) ah]
 rw[ak h2];by_cases h3:c<65536
 .rw[ay h3,Lib.encodeRuneZ_three ah]
  simp only[lD,mU,hb (224+(c:A) / 4096) (224+c / 4096) ah,hb (128+(c:A) / 64 % 64) (128+c / 64 % 64) ah,hb (128+(c:A) % 64) (128+c % 64) ah]
 .rw[ak h3,Lib.encodeRuneZ_four ah ah]
  simp only[lD,mU,hb (240+(c:A) / 262144) (240+c / 262144) ah,hb (128+(c:A) / 4096 % 64) (128+c / 4096 % 64) ah,hb (128+(c:A) / 64 % 64) (128+c / 64 % 64) ah,hb (128+(c:A) % 64) (128+c % 64) ah]
theorem O6 {l:Bs}(h:okB ⟨l.toArray⟩ 0=L):¬((G ⟨l.toArray⟩ 0).1=65533/\(G ⟨l.toArray⟩ 0).2=1):=by
 rintro⟨h1,h2⟩;unfold okB at h;rw[h1,h2] at h;simp at h
theorem Uk (l:Bs)(hne:l≠[])(h:okB ⟨l.toArray⟩ 0=L):
  Utf8.encode ((G ⟨l.toArray⟩ 0).1:A)=⟨(l.take (G ⟨l.toArray⟩ 0).2).toArray⟩/\G ⟨(l.take (G ⟨l.toArray⟩ 0).2).toArray⟩ 0=G ⟨l.toArray⟩ 0/\(G ⟨l.toArray⟩ 0).2<=4:=by
 have hl:0<l.length:=List.length_pos_iff.2 hne;have hle:=Bz l hne;have he:=Lib.encode_decode l hne (O6 h);have hd:G ⟨l.toArray⟩ 0=Lib.decodeL l:=rfl;have hd2:∀u:Bs,G ⟨u.toArray⟩ 0=Lib.decodeL u:=λ_=>rfl
 have hg:∀(n k:H),k<n->(l.take n).getD k 0=l.getD k 0:=λn k h=>by simp[List.getD,h]
 have hok:=O6 h;rw[hd] at hle hok ⊢;rw[hd2];rw[Lib.decodeL_N (l.take _)];have hN:=Lib.decodeL_N l;rcases Lib.decodeN_shape l.length (l.getD 0 0).toNat (l.getD 1 0).toNat (l.getD 2 0).toNat (l.getD 3 0).toNat with⟨c,e⟩|⟨c1,c2,c3,cv,e⟩|⟨c1,c2,c3,c4,cv,cs,e⟩|⟨c1,c2,c3,c4,c5,cv,cw,e⟩|e
 .rw[e] at hN
  rw[hN] at hle he ⊢;refine⟨by rw[KH _ (by simp only[];omega) (by simp only[];omega),he],?_,by simp⟩;simp only[dN];rw[hg 1 0 ah];unfold Lib.decodeN;rw[ay c]
 .rw[e] at hN
  rw[hN] at hle he ⊢;simp only at hle;refine⟨by rw[KH _ (by simp only[];omega) (by simp only[];omega),he],?_,by simp⟩;simp only[dN];rw[hg 2 0 ah,hg 2 1 ah,zF ah];unfold Lib.decodeN;rw[ak ah,ay ⟨c1,by omega,c3⟩,ay ah]
 .rw[e] at hN
  rw[hN] at hle he ⊢;simp only at hle;refine⟨by rw[KH _ (by simp only[];omega) (by simp only[];omega),he],?_,by simp⟩;simp only[dN];rw[hg 3 0 ah,hg 3 1 ah,hg 3 2 ah,zF ah];unfold Lib.decodeN;rw[ak ah,ak ah,ay ⟨c1,⟨by omega,c3⟩,⟨by omega,c4⟩⟩,ay ah]
 .rw[e] at hN
  rw[hN] at hle he ⊢;simp only at hle;refine⟨by rw[KH _ (by simp only[];omega) (by simp only[];omega),he],?_,by simp⟩;simp only[dN];rw[hg 4 0 ah,hg 4 1 ah,hg 4 2 ah,hg 4 3 ah,zF ah];unfold Lib.decodeN;rw[ak ah,ak ah,ak ah,ay ⟨c1,⟨by omega,c3⟩,⟨by omega,c4⟩,⟨by omega,c5⟩⟩,ay ah]
 .exfalso
  rw[e] at hN;exact hok (by rw[hN];exact⟨rfl,rfl⟩)
theorem EH (r:A)(w:O):U E 185 #[.int .i32 r] w (cK (D (gq r)) w):=by
 by_cases h1:48<=r <;> by_cases h2:r<=57
 all_goals
  go_enter func185,ntmps185;go_wp2_with fail;go_ret;exact⟨by simp[gq,h1,h2],S _ _⟩
def mq (l:Bs):Bs:=if l.head?=I 45 then(if(l.tail.takeWhile jR).length=0 then [] else l.take ((l.tail.takeWhile jR).length+1)) else l.takeWhile jR
theorem Jd (b:Z):jR b=(decide (48<=b.toNat) && decide (b.toNat<=57)):=rfl
def hz (l:Bs):H:=if l.head?=I 45 then 1 else 0
def Gs (l:Bs)(k e:H):Prop:=(k=0/\e=0)\/(hz l<=k/\(∀x∈(l.take k).drop (hz l),jR x=L)/\e=(if k=hz l then 0 else k))
theorem Xo {q:Z->Bool}{l:Bs}{k:H}(h:∀x∈l.take k,q x=L)(hs:k=l.length\/∃b,l[k]?=I b/\q b=C)(hk:k<=l.length):(l.takeWhile q).length=k/\l.takeWhile q=l.take k:=by
 rcases hs with rfl|⟨b,hb,hq⟩
 .rw[List.take_length] at h ⊢
  rw[Wu q l h];exact⟨rfl,rfl⟩
 .rw[K5 q l k b h hb hq]
  exact⟨by rw[dN];omega,rfl⟩
theorem Lc {l:Bs}{k e:H}(h:Gs l k e)(hk:k<=l.length)(hs:k=l.length\/∃b,l[k]?=I b/\jR b=C/\¬(k=0/\b=45)):mq l=l.take e/\e<=l.length:=by
 unfold mq;by_cases h45:l.head?=I 45
 .rw[ay h45]
  obtain⟨t,rfl⟩:∃t,l=45::t:=by cases l with
   |nil=>simp at h45
   |cons a t=>exact⟨t,by simpa using h45⟩
  have hz1:hz (45::t)=1:=rfl;unfold Gs at h;rw[hz1] at h;rcases h with⟨rfl,rfl⟩|⟨h1,h2,h3⟩
  .exfalso
   rcases hs with h|⟨b,hb,_,hn⟩
   .simp at h
   .exact hn ⟨rfl,by simpa using hb.symm⟩
  .obtain⟨j,rfl⟩:∃j,k=j+1:=⟨k - 1,by omega⟩
   have ht:((45::t:Bs).tail.takeWhile jR).length=j/\_:=Xo (l:=t) (k:=j) (by simpa using h2) (by
    rcases hs with h|⟨b,hb,hq,_⟩
    .exact .inl (by simpa using h)
    .exact .inr ⟨b,by simpa using hb,hq⟩) (by simpa using hk)
   rw[ht.1];by_cases hj:j=0
   .subst hj;rw[ay rfl,h3,ay rfl];exact⟨rfl,aV _⟩
   .rw[ak hj,h3,ak ah];exact⟨rfl,hk⟩
 .rw[ak h45]
  have hz0:hz l=0:=ak h45;unfold Gs at h;rw[hz0] at h;have he:e=k/\∀x∈l.take k,jR x=L:=by
   rcases h with⟨rfl,rfl⟩|⟨_,h2,h3⟩
   .exact⟨rfl,by simp⟩
   .exact⟨by rw[h3];split <;> omega,by simpa using h2⟩
  rw[he.1];exact⟨(Xo he.2 (by
   rcases hs with h|⟨b,hb,hq,_⟩
   .exact .inl h
   .exact .inr ⟨b,hb,hq⟩) hk).2,hk⟩
theorem ajD {l:Bs}{k e:H}{b:Z}(h:Gs l k e)(hb:l[k]?=I b)(hd:jR b=L):Gs l (k+1) (k+1):=by
 have hzl:hz l<=k:=by
  rcases h with⟨rfl,_⟩|⟨h1,_⟩
  .unfold hz
   split
   .rename_i h45
    exfalso
    cases l with
    |nil=>simp at hb
    |cons a t=>
     obtain rfl:a=b:=by simpa using hb
     obtain rfl:a=45:=by simpa using h45
     exact absurd hd aj
   .omega
  .exact h1
 refine .inr ⟨by omega,λx hx=>?_,by rw[ak ah]⟩;rw[eO,hb,List.drop_append_of_le_length (by rw[dN];have:=(bG.1 hb).1;omega)] at hx;rcases bJ.1 hx with hx|hx
 .rcases h with⟨rfl,_⟩|⟨_,h2,_⟩
  .simp at hx
  .exact h2 x hx
 .obtain rfl:x=b:=by simpa using hx
  exact hd
theorem adQ {l:Bs}{e:H}(h:Gs l 0 e)(hb:l[0]?=I 45):e=0/\Gs l 1 0:=by
 have h45:l.head?=I 45:=by cases l with
  |nil=>simp at hb
  |cons a t=>simpa using hb
 have hz1:hz l=1:=ay h45;refine⟨?_,.inr ⟨by omega,λx hx=>?_,by rw[hz1,ay rfl]⟩⟩
 .rcases h with⟨_,h⟩|⟨h1,_⟩
  .exact h
  .omega
 .rw[hz1] at hx
  cases l with
  |nil=>simp at hx
  |cons a t=>simp at hx
theorem Rv (l:Bs)(hlim:l.length<=1000000)(w:O):U E 173 #[V ⟨l.toArray⟩] w (sH (V ⟨(mq l).toArray⟩) (V ⟨(l.drop (mq l).length).toArray⟩) w):=by
 obtain⟨X,hX⟩:∃X,X=mq l:=⟨_,rfl⟩;rw[<-hX];have HX:=g hX;have hbz:=iM l;clear hX;go_enter func173,ntmps173;go_wp2_with fail
 go_step3
 go_wp2_with fail
 go_step3
 go_wp2_with fail
 go_loopw [4] (λv wr=>∃k e:H,v= M J e/\k<=l.length/\e<=l.length/\wr.1[w.1.size]?=I (.stringIter ⟨l.toArray⟩ k)/\Below w.1.size w wr/\Gs l k e) (λ_ wr=>l.length - wr.iterPos w.1.size)
 case atStart=>exact⟨0,0,rfl,aV _,aV _,World.iter_heap w ⟨l.toArray⟩ 0,jV w ⟨l.toArray⟩,.inl ⟨rfl,rfl⟩⟩
 case round=>
  obtain⟨k,e,rfl,hk,asS,hit,hbw,hat⟩:=hrel;by_cases hp:k<l.length
  .obtain⟨b,t,hbt⟩:∃b t,l.drop k=b::t:=⟨_,_,nN hp⟩
   have hnx:∀ty,(Instr.next (.pointer (I ⟨w.1.size,0,none⟩)) L ty).run E wr=_:=λty=>Lib.run_next_any_at wr w.1.size ⟨l.toArray⟩ k ty hit (by rw[iM];exact hp)
   have hwd:=sJ l k;rw[hbt] at hwd;rw[hwd] at hnx;have hkb:l[k]?=I b:=by
    have:=dF (λl=>l[0]?) hbt
    simpa using this
   obtain⟨r,d,hr,hd⟩:∃(r:A)(d:H),r=((G ⟨(b::t).toArray⟩ 0).1:A)/\d=(G ⟨(b::t).toArray⟩ 0).2:=⟨_,_,rfl,rfl⟩;have hbr:(b.toNat<128/\r=b.toNat/\d=1)\/(128<=b.toNat/\128<=r):=by
    rcases jP b.toNat 128 with h1|h1
    .rw[sQ b t h1] at hr hd;exact .inl ⟨h1,hr,hd⟩
    .have:=(Dy b t h1).1;exact .inr ⟨h1,by omega⟩
   rw[<-hr,<-hd] at hnx;have hit2:=Lib.iterAt_heap wr w.1.size ⟨l.toArray⟩ k (k+d) hit;have hbw2:=Lib.below_iterAt hbw (k:=w.1.size) (aA _) ⟨l.toArray⟩ (k+d);have yS:=g hbr;have HAT:=g hat;have OG:=g hkb;have HB2:=g hbw2;have HI2:=g hit2;have HIT:=g hit;have hDB:jR b=gq r:=by
    rw[Jd];unfold gq;rcases hbr with⟨h1,h2,h3⟩|⟨h1,h2⟩
    .rw[h2];congr 1 <;> exact decide_eq_decide.2 ah
    .rw[aX (show ¬b.toNat<=57 by omega),aX (show ¬r<=57 by omega),Bool.and_false,Bool.and_false]
   have HDB:=g hDB;clear hbr hat hkb hbw2 hit2 hbw hwd hr hd hbt hit hDB
   cases kX:gq r
   .by_cases hsg:k=0/\r=45
    .obtain⟨rfl,rfl⟩:=hsg
     have Yx:b=45/\d=1:=by
      rcases yS.q with⟨h1,h2,h3⟩|⟨h1,h2⟩
      .exact⟨mV.1 (by show b.toNat=45;omega),h3⟩
      .exfalso;omega
     obtain⟨rfl,rfl⟩:=Yx;obtain⟨h0,h1⟩:=adQ HAT.q OG.q;have H1:=g h1;have HI3:Hid ((wr.iterAt w.1.size ⟨l.toArray⟩ (0+1)).1[w.1.size]?=I (.stringIter ⟨l.toArray⟩ 1)):=HI2;clear h1
     go_wp2_with (first|(go_at_call 185;refine(EH _ _).mono ?_;rintro e w3 ⟨rfl,hb3⟩;rw[kX];have HB3:=g (HB2.q.bO hb3);have HI4:=g ((hb3.block w.1.size (by have:=(dI.1 HI2.q).1;exact this)).trans HI3.q);clear hb3)|fail)
     go_roundw
     case rel=>exact⟨1,0,rfl,by omega,aV _,HI4.q,HB3.q,H1.q⟩
     case measure=>rw[iterPos_of HI4.q,iterPos_of HIT.q];omega
    .by_cases hk0:k=0
     .subst hk0
      rw[bU] at HB2;have asT:(r !=45)=L:=p8.2 (λe=>hsg ⟨rfl,e⟩);have HSG:=g hsg;clear hsg;have HE:=g (Lc HAT.q ah (.inr ⟨b,OG.q,by rw[HDB.q,kX],λe=>HSG.q ⟨rfl,by rcases yS.q with⟨h1,h2,h3⟩|⟨h1,h2⟩ <;> (rw[e.2] at h1;simp at h1);rw[h2,e.2];rfl⟩⟩));have hsh:=λW=>AX B l e HE.q.2 W
      have hsl:=λW=>oD B l e HE.q.2 W
      have hel:(l.take e).length=e:=by rw[dN];have:=HE.q.2;omega
      have xD:=g hel;clear hel
      go_wp2_with (first|(go_at_call 185;refine(EH _ _).mono ?_;rintro e w3 ⟨rfl,hb3⟩;rw[kX];have HB3:=g (HB2.q.bO hb3);clear hb3)|go_quiet (fail))
      change bodyPost _ _ _ Exit.ret _ _
      go_ret2
      exact⟨by rw[HX.q,HE.q.1,xD.q];rfl,fA HB3.q _⟩
     .have hk1:decide ((0:A)<(k:A))=L:=bA ah
      have hk2:decide (0<k)=L:=bA ah;have Q7:=g hk0;clear hk0 hsg;have HE:=g (Lc HAT.q ah (.inr ⟨b,OG.q,by rw[HDB.q,kX],λe=>Q7.q e.1⟩));have hsh:=λW=>AX B l e HE.q.2 W
      have hsl:=λW=>oD B l e HE.q.2 W
      have hel:(l.take e).length=e:=by rw[dN];have:=HE.q.2;omega
      have xD:=g hel;clear hel
      go_wp2_with (first|(go_at_call 185;refine(EH _ _).mono ?_;rintro e w3 ⟨rfl,hb3⟩;rw[kX];have HB3:=g (HB2.q.bO hb3);clear hb3)|go_quiet (fail))
      change bodyPost _ _ _ Exit.ret _ _
      go_ret2
      exact⟨by rw[HX.q,HE.q.1,xD.q];rfl,fA HB3.q _⟩
   .have hb1:d=1:=by
     rcases yS.q with⟨h1,h2,h3⟩|⟨h1,h2⟩
     .exact h3
     .simp[gq] at kX;omega
    subst hb1;have H1:=g (ajD HAT.q OG.q (by rw[HDB.q,kX]))
    go_wp2_with (first|(go_at_call 185;refine(EH _ _).mono ?_;rintro e w3 ⟨rfl,hb3⟩;rw[kX];have HB3:=g (HB2.q.bO hb3);have HI4:=g ((hb3.block w.1.size (by have:=(dI.1 HI2.q).1;exact this)).trans HI2.q);clear hb3)|fail)
    go_roundw
    case rel=>exact⟨k+1,k+1,by go_num,by omega,by omega,HI4.q,HB3.q,H1.q⟩
    case measure=>rw[iterPos_of HI4.q,iterPos_of HIT.q];omega
  .have hnx:∀ty,(Instr.next (.pointer (I ⟨w.1.size,0,none⟩)) L ty).run E wr=_:=λty=>Lib.run_next_end_at wr w.1.size ⟨l.toArray⟩ k ty hit (by rw[iM];exact hp)
   have HE:=g (Lc hat hk (.inl ah));have hsh:=λW=>AX B l e HE.q.2 W
   have hsl:=λW=>oD B l e HE.q.2 W
   have hel:(l.take e).length=e:=by rw[dN];have:=HE.q.2;omega
   have xD:=g hel;have HB:=g hbw;clear hel hbw hat
   go_wp2_with (go_quiet (fail))
   change bodyPost _ _ _ Exit.ret _ _
   go_ret2
   exact⟨by rw[HX.q,HE.q.1,xD.q];rfl,fA HB.q _⟩
theorem adR (i:H)(hi:i<=9)(W:O):(callFunc 189 #[.int .u64 0,.int .u64 (i:A),.int .u64 0]).run E W= .ok (.value (.tuple #[.int .u64 (i:A),.int .u64 0])) W:=by
 rw[run_callFunc_extern (e:=add64Entry) func189 av av av av,run_add64 0 i 0 ah ah ah ah];rw[show(0+(i:A)+0) % 18446744073709551616=(i:A) by omega,show(0+(i:A)+0) / 18446744073709551616=0 by omega];rfl
theorem adS (i:H)(hi:i<=9)(w:O):U E 178 #[.agg #[.int .u64 0,D C,D C],.int .i32 ((48+i:H):A)] w (cK (.agg #[.int .u64 i,D C,D C]) w):=by
 have HM:=λW=>g (Tryz.bits_Mul64 0 10 aj aj W)
 have HB:=g (aB (aB (S w.1.size w) (.cells #[.int .u64 0,D C,D C] 232)) (.cells #[.int .u64 0,D C,D C] 232));have hA:=λW=>adR i hi W
 have HX:=g ((Bx.new w #[.int .u64 0,D C,D C] 232).alloc (.cells #[.int .u64 0,D C,D C] 232));rcases(by omega:i=0\/i=1\/i=2\/i=3\/i=4\/i=5\/i=6\/i=7\/i=8\/i=9) with rfl|rfl|rfl|rfl|rfl|rfl|rfl|rfl|rfl|rfl
 all_goals
  simp only[Int.cast_ofNat_Int] at hA;go_enter func178,ntmps178;go_wp2_with fail;refine(HM _).q.mono ?_;rintro e w1 ⟨rfl,rfl⟩;go_wp2_with fail;refine bodyPost_ret (v:=_) ?_ rfl ⟨rfl,aB (aB (S _ _) _) _⟩;simp[results,results178,go_sem]
theorem Xp (i:H)(hi:i<=9)(w:O):U E 179 #[.agg #[.int .u64 i,D C,D C]] w (sH (M J i) (D L) w):=by
 rcases(by omega:i=0\/i=1\/i=2\/i=3\/i=4\/i=5\/i=6\/i=7\/i=8\/i=9) with rfl|rfl|rfl|rfl|rfl|rfl|rfl|rfl|rfl|rfl
 all_goals
  go_enter func179,ntmps179;go_wp2_with fail
  go_ret2
  exact⟨rfl,aB (S _ _) _⟩
theorem ZQ (b:Z)(h:jR b=L)(h45:b≠45):mq [b]=[b]:=by
 unfold mq;rw[ak (by simp[h45])];simp[h]
theorem adA (b:Z)(h48:48<=b.toNat)(h57:b.toNat<=57)(w:O):U E 161 #[V ⟨#[b]⟩] w (sH (M J ((b.toNat - 48:H):A)) (M J 0) w):=by
 obtain⟨i,hi⟩:∃i,i=b.toNat - 48:=⟨_,rfl⟩;rw[<-hi];have hb:48+i=b.toNat:=by omega
 have HH:=λW=>g (Rv [b] au W)
 rw[ZQ b (by rw[Jd];simp[h48,h57]) (λe=>by rw[e] at h48;exact absurd h48 aj)] at HH;have HW:=λW=>g (adS i ah W)
 have HN:=λW=>g (Xp i ah W)
 rw[hb] at HW;have hi0:∀W,(Instr.index 9 (V ⟨#[b]⟩) (M J 0)).run E W= .ok (.int .u8 (b.toNat:A)) W:=λW=>jH B [b] 0 b rfl W
 have e45:((b.toNat:A)==45)=C:=aR.2 ah;have hempty:(([b]:Bs)==([]:Bs))=C:=rfl;have HD:=g (sQ b [] ah);clear h48 h57 hi hb
 cases h0:((b.toNat:A)==48)
 all_goals
  go_enter func161,ntmps161;go_wp2_with fail;refine(HH _).q.mono ?_;rintro e w1 ⟨rfl,hb1⟩;have HB1:=g ((aB hb1 (.cells #[.int .u64 0,D C,D C] 232)).trans (jV _ ⟨#[b]⟩|>.mono (by have:=hb1.size;simp;omega)));have bP:=g (((Bx.new w1 #[.int .u64 0,D C,D C] 232)).keep (jV _ ⟨#[b]⟩));have HZ:Hid (w.1.size<=w1.1.size):=g hb1.size;clear hb1;go_wp2_with fail
  go_loopw [] (λwr=>∃(W:O)(k v:H),W=wr/\((k=0/\v=0)\/(k=1/\v=i))/\wr.1[w1.1.size+1]?=I (.stringIter ⟨#[b]⟩ k)/\Bx wr w1.1.size #[.int .u64 v,D C,D C]/\Below w.1.size w wr) (λwr=>2 - wr.iterPos (w1.1.size+1))
  case atStart=>exact⟨_,0,0,rfl,.inl ⟨rfl,rfl⟩,(by have:=World.iter_heap (w1.alloc (.cells #[.int .u64 0,D C,D C] 232)) ⟨#[b]⟩ 0;rwa[World.size_alloc] at this),bP.q,HB1.q⟩
  case round=>
   obtain⟨W,k,v,rfl,hkv,hit,hbx,hbw⟩:=hrel;have HIT:=g hit;have iT:=g hbx;have bE:=g hbw;have hcx:=hbx.1;have hfx:=hbx.2.1;clear hbx hbw;rcases hkv with⟨rfl,rfl⟩|⟨rfl,rfl⟩
   .have hnx:∀ty,(Instr.next (.pointer (I ⟨w1.1.size+1,0,none⟩)) L ty).run E W= .ok (.tuple #[D L,M J 0,.int .i32 (b.toNat:A)]) (W.iterAt (w1.1.size+1) ⟨#[b]⟩ 1):=λty=>by
     have h:=Lib.run_next_any_at (P:=E) W (w1.1.size+1) ⟨#[b]⟩ 0 ty hit (by simp[ByteArray.size]);rw[show G ⟨#[b]⟩ 0=(b.toNat,1) from HD.q] at h;exact h
    have HI2:=g (Lib.iterAt_heap W (w1.1.size+1) ⟨#[b]⟩ 0 1 hit);have HB2:=g (Lib.below_iterAt bE.q (k:=w1.1.size+1) (by have:=HZ.q;omega) ⟨#[b]⟩ 1);clear hit;have hbv:=iT.q.of_eq (Y:=W.iterAt (w1.1.size+1) ⟨#[b]⟩ 1) (by rw[Lib.iterAt_size];exact aA _) (Lib.iterAt_other W _ _ _ _ ah);have hcv:=hbv.1;have mH:=g hbv;clear hbv hcx hfx;go_wp2_with fail;refine(HW _).q.mono ?_;rintro e w4 ⟨rfl,hb4⟩;have fU:=g (HB2.q.bO hb4);have hb5:=mH.q.keep hb4;have jv:=g hb5;have pK:=hb5.1;have hf5:=hb5.2.1;have HI4:=g ((hb4.block (w1.1.size+1) (dI.1 HI2.q).1).trans HI2.q);clear hb4 hb5 hcv;go_wp2_with fail;have hz:Same (λj=>j≠w1.1.size) w4 (((w4.setCell ⟨w1.1.size,0,none⟩ (.int .u64 i)).setCell ⟨w1.1.size,1,none⟩ (D C)).setCell ⟨w1.1.size,2,none⟩ (D C)):=(((Same.refl' w4).setTail (λh=>h rfl)).setTail (λh=>h rfl)).setTail (λh=>h rfl);have HI5:=g ((hz.block (w1.1.size+1) ah (dI.1 HI4.q).1).trans HI4.q);have Ak:=g (hz.below fU.q (λj hj=>by have:=HZ.q;omega) fU.q.size);clear hz;go_roundw
    case rel=>exact⟨_,1,i,rfl,.inr ⟨rfl,rfl⟩,HI5.q,((jv.q.aZ 0 au (.int .u64 i)).aZ 1 au (D C)).aZ 2 au (D C),Ak.q⟩
    case measure=>rw[iterPos_of HI5.q,iterPos_of HIT.q];omega
   .have hnx:∀ty,(Instr.next (.pointer (I ⟨w1.1.size+1,0,none⟩)) L ty).run E W=_:=λty=>Lib.run_next_end_at W (w1.1.size+1) ⟨#[b]⟩ 1 ty hit (by simp[ByteArray.size])
    clear hit;go_wp2_with fail;refine(HN _).q.mono ?_;rintro e w3 ⟨rfl,hb3⟩;have HB3:=g (bE.q.bO hb3);clear hb3;go_wp2_with fail
    go_ret2
    exact⟨rfl,HB3.q⟩
theorem MC {x t:Bs}{k:H}{a:Z}(h1:x[k]?=I a)(h2:t[k]?=I a):jw (x.drop k) (t.drop k)=jw (x.drop (k+1)) (t.drop (k+1))+1:=by
 obtain⟨l1,e1⟩:=bG.1 h1;obtain⟨l2,e2⟩:=bG.1 h2;rw[nN l1,nN l2,e1,e2];simp[jw]
theorem xO {x t:Bs}{k:H}(h:x.length<=k\/t.length<=k\/∃a b,x[k]?=I a/\t[k]?=I b/\a≠b):jw (x.drop k) (t.drop k)=0:=by
 rcases h with h|h|⟨a,b,h1,h2,h3⟩
 .rw[Ay h];simp[jw]
 .rw[Ay h];cases x.drop k <;> simp[jw]
 .obtain⟨l1,e1⟩:=bG.1 h1
  obtain⟨l2,e2⟩:=bG.1 h2;rw[nN l1,nN l2,e1,e2];simp[jw,h3]
theorem adT (x t:Bs):jw x t<=t.length:=by
 induction x generalizing t with
 |nil=>simp[jw]
 |cons a x ih=>
  cases t with
  |nil=>simp[jw]
  |cons b t=>
   simp only[jw]
   split
   .have:=ih t;simp;omega
   .simp
theorem Pv (ws:List Bs)(s t:Bs):zm (ws++[s]) t=max (zm ws t) (jw s t):=by simp[zm]
theorem Xq (ws:List Bs)(t:Bs):zm ws t<=t.length:=by
 have:∀(ws:List Bs)(m:H),m<=t.length->ws.foldl (λm s=>max m (jw s t)) m<=t.length:=by
  intro ws
  induction ws with
  |nil=>intro m hm;exact hm
  |cons s ws ih=>intro m hm;exact ih (max m (jw s t)) (Nat.max_le.2 ⟨hm,adT s t⟩)
 exact this ws 0 (aV _)
theorem KY {R p:H}{s l:Bs}{c:bB}{n:aP}(w:O)(h:dY w R s p l c n)(a:Option Addr)(nn cc:H)(ws:List Bs)(hr:Row w 1 encStr a nn cc ws)(hnn:nn<=100)(hw:∀x∈ws,x.length<=100)(rD:∀x∈ws,(128:Z)∉x):
  U E 149 #[.pointer (I ⟨R,0,none⟩),.slice a nn cc] w (nT R s c n w (λi:H=> M J i) (eT ws l)):=by
 have HS:=g (T9 w h);obtain⟨X,hX⟩:∃X,X=eT ws l:=⟨_,rfl⟩;rw[<-hX];obtain⟨T,hT⟩:∃T,T=fu l:=⟨_,rfl⟩;rw[<-hT] at HS;obtain⟨Wh,hWh⟩:∃Wh,Wh=qi l:=⟨_,rfl⟩;have hTl:T.length<=l.length:=by rw[hT];have:=pV rX l;unfold fu;omega
 have hcs:(l.drop T.length=[]/\Wh=T)\/(∃b t,l.drop T.length=b::t/\b.toNat<128/\Wh=T)\/(∃b t,l.drop T.length=b::t/\128<=b.toNat/\Wh=T++[128]):=by
  unfold qi at hWh;rw[<-hT] at hWh
  cases hd:l.drop T.length with
  |nil=>rw[hd] at hWh;exact .inl ⟨rfl,hWh⟩
  |cons b t=>
   rw[hd] at hWh;simp only[GR] at hWh;by_cases h1:(128:Z)<=b
   .rw[ay h1] at hWh;exact .inr (.inr ⟨b,t,rfl,h1,hWh⟩)
   .rw[ak h1] at hWh;exact .inr (.inl ⟨b,t,rfl,Nat.lt_of_not_le h1,hWh⟩)
 have hlen:=h.len;have hlim:=h.lim;have HX:=g hX;have HT:=g hT;have HWH:=g hWh;have HH:=g h;have HR:=g hr;have HW:=g hw;have HWA:=g rD;have hz:=iM s;have hzT:=iM T;clear hX hT hWh h hr hw rD;rcases hcs with⟨hd,Pw⟩|⟨b,t,hd,hb,Pw⟩|⟨b,t,hd,hb,Pw⟩
 case' inr.inr=>
  have hend:p+T.length<s.length:=by
   have:=dF List.length hd;simp at this;omega
  have hd1:decide ((p:A)+(T.length:A)<(s.length:A))=L:=bA ah;have hsb:s[p+T.length]?=I b:=by
   have:=dF (λl=>l[0]?) hd;rw[<-HH.q.d] at this
   simpa using this
  have hix:=λW=>jH B s (p+T.length) b hsb W
  rw[Ce] at hix;have hb1':decide ((128:A)<=(b.toNat:A))=L:=bA ah;have asU:((⟨T.toArray⟩:ByteArray)++⟨#[128]⟩)=⟨Wh.toArray⟩:=by rw[Pw];exact anG T [128]
  have HWT:=g Pw;clear hd hsb Pw;go_enter func149,ntmps149;go_wp2_with fail;refine HS.q.mono ?_;rintro e w1 ⟨rfl,hb1⟩;have H1:=g (HH.q.below hb1);have HB1:=g hb1;have c0:=H1.q.c0;have c1:=H1.q.c1;clear hb1
  go_wp2_with (go_quiet (fail))
  clear hd1 c0 c1
  go_loopw [8,47] (λf i wr=>∃k m:H,k<=nn/\i= M J k/\f= M J m/\m=zm (ws.take k) T/\(∀x∈ws.take k,x≠Wh)/\Below w.1.size w wr) (λ_ i _=>nn - (F i).toNat)
  case atStart=>exact⟨0,0,aV _,rfl,rfl,rfl,by simp,fA HB1.q _⟩
  case round=>
   obtain⟨k,m,hk,rfl,rfl,hm,hne,hbw⟩:=hrel;have hmt:m<=T.length:=by rw[hm];exact Xq _ _
   have hml:m<=1000000:=by omega
   by_cases hlt:k<nn
   .obtain⟨x,b',o,hx,rfl,hc⟩:=(HR.q.below hbw rfl).at_ hlt
    have hc0:=hc 0 _ rfl;simp only[jo,bM] at hc0;have hxw:x∈ws:=bQ hx;have hxl:=HW.q x hxw;have bE:=g hbw;have HM:=g hm;have jG:=g hne;have lI:=g hx;have gI:=g hxw;have HC:=g (HH.q.below hbw);have c1:=HC.q.c1;have z1:=f1 HC.q 1;clear hc hbw hm hne hx hxw
    cases hxe:x==Wh
    .clear c1 z1
     have END:Hid (∀(W':O)(q:H),Below w.1.size w W'->jw x T=q->∃k' m':H,k'<=nn/\Q J ((k:A)+1)= M J k'/\Q J (max (m:A) (q:A))= M J m'/\m'=zm (ws.take k') T/\(∀y∈ws.take k',y≠Wh)/\Below w.1.size w W'):=g (λW' q hb hq=>
      ⟨k+1,max m q,by omega,by rw[Ce];rfl,dF (Q J) ah,by rw[eO,lI.q,Option.toList_some,Pv,hq,<-HM.q],λy hy=>by
       rw[eO,lI.q] at hy;rcases bJ.1 hy with hy|hy
       .exact jG.q y hy
       .obtain rfl:y=x:=by simpa using hy
        exact λe=>by rw[e] at hxe;simp at hxe,hb⟩)
     go_wp2_with fail
     go_loopw [11] (λj wx=>∃W,W=wx/\∃q:H,j= M J q/\q<=T.length/\q<=x.length/\jw (x.drop q) (T.drop q)+q=jw x T/\Below w.1.size w W) (λj _=>T.length - (F j).toNat)
     case atStart=>exact⟨_,rfl,0,rfl,aV _,aV _,by simp,bE.q⟩
     case round=>
      obtain⟨W,rfl,q,rfl,hqT,hqx,hcm,hbx⟩:=hrel;have iT:=g hbx;have HCM:=g hcm;clear hbx hcm;by_cases h1:q<x.length
      .by_cases h2:q<T.length
       .have hd3:decide ((q:A)<min (x.length:A) (T.length:A))=L:=bA ah
        obtain⟨a1,ha1⟩:∃a1,x[q]?=I a1:=⟨_,eu h1⟩;obtain⟨a2,ha2⟩:∃a2,T[q]?=I a2:=⟨_,eu h2⟩;have hi1:=λW=>jH B x q a1 ha1 W
        have hi2:=λW=>jH B T q a2 ha2 W
        have HA1:=g ha1;have HA2:=g ha2;have HL:=g (⟨h1,h2⟩:_/\_);clear ha1 ha2 h1 h2;by_cases he:a1=a2
        .have hb:((a1.toNat:A)==(a2.toNat:A))=L:=by simp[he]
         have HE:=g he;clear he
         go_wp2_with (go_quiet (fail))
         go_roundw
         case rel=>exact⟨_,rfl,q+1,by go_num,HL.q.2,HL.q.1,by have:=MC HA1.q (HE.q▸HA2.q);have:=HCM.q;omega,fA iT.q _⟩
         case measure=>have:=HL.q.2;simp[F];omega
        .have hb:((a1.toNat:A)==(a2.toNat:A))=C:=aR.2 (λe=>he (mV.1 ah))
         have HE:=g he;clear he
         go_wp2_with (go_quiet (fail))
         go_roundw
         case rel=>exact END.q _ q (fA iT.q _) (by have:=xO (.inr (.inr ⟨a1,a2,HA1.q,HA2.q,HE.q⟩));have:=HCM.q;omega)
         case measure=>simp[F];omega
       .have hd3:decide ((q:A)<min (x.length:A) (T.length:A))=C:=aX ah
        have HL:=g h2;clear h2
        go_wp2_with (go_quiet (fail))
        go_roundw
        case rel=>exact END.q _ q (fA iT.q _) (by have:=xO (x:=x) (t:=T) (k:=q) (.inr (.inl (by have:=HL.q;omega)));have:=HCM.q;omega)
        case measure=>simp[F];omega
      .have hd3:decide ((q:A)<min (x.length:A) (T.length:A))=C:=aX ah
       have HL:=g h1;clear h1
       go_wp2_with (go_quiet (fail))
       go_roundw
       case rel=>exact END.q _ q (fA iT.q _) (by have:=xO (x:=x) (t:=T) (k:=q) (.inl (by have:=HL.q;omega));have:=HCM.q;omega)
       case measure=>simp[F];omega
    .exfalso
     have hxW:x=Wh:=by simpa using hxe
     have h128:=HWA.q x gI.q;rw[hxW,HWT.q] at h128;exact h128 au
   .obtain rfl:k=nn:=by omega
    have hF:∀W,U E 133 #[M J ((p:A)+(m:A)),M J 220] W (λe w'=>e= .panicked (oH (p+m) 220)/\w'=W):=λW=>by
     have:=mJ (p+m) 220 W
     rwa[Ce] at this
    have HF:=λW=>g (hF W)
    have htk:ws.take k=ws:=dR (by rw[HR.q.len];exact aA _);rw[htk] at hm hne;have RH:Hid (eT ws l= .error (l.drop m,220)):=g (by
     unfold eT;rw[<-HT.q,<-HWH.q,Ec.2 (λy hy=>by simpa using hne y hy),<-hm])
    have bE:=g hbw;have HC:=g (HH.q.below hbw);have c1:=HC.q.c1;clear hm hne hbw hF htk;go_wp2_with fail;refine(HF _).q.mono ?_;rintro e w4 ⟨rfl,rfl⟩;refine⟨rfl,?_⟩;show nT R s c n w _ _ _ _;rw[HX.q,RH.q];refine⟨?_,Same.of_below bE.q (λ_ _ h=>h)⟩;rw[show s.length - (l.drop m).length=p+m by rw[kz];omega]
 case' inl=>
  have hend:p+T.length=s.length:=by
   have:=dF List.length hd;simp at this;omega
  subst Pw;have hd1:decide ((p:A)+(Wh.length:A)<(s.length:A))=C:=aX ah;clear hd
 case' inr.inl=>
  have hend:p+T.length<s.length:=by
   have:=dF List.length hd;simp at this;omega
  subst Pw;have hd1:decide ((p:A)+(Wh.length:A)<(s.length:A))=L:=bA ah;have hsb:s[p+Wh.length]?=I b:=by
   have:=dF (λl=>l[0]?) hd;rw[<-HH.q.d] at this
   simpa using this
  have hix:=λW=>jH B s (p+Wh.length) b hsb W
  rw[Ce] at hix;have hb1':decide ((128:A)<=(b.toNat:A))=C:=aX ah;clear hd hsb
 all_goals
  go_enter func149,ntmps149;go_wp2_with fail;refine HS.q.mono ?_;rintro e w1 ⟨rfl,hb1⟩;have H1:=g (HH.q.below hb1);have HB1:=g hb1;have c0:=H1.q.c0;have c1:=H1.q.c1;clear hb1
  go_wp2_with (go_quiet (fail))
  clear hd1 c0 c1
  go_loopw [8,47] (λf i wr=>∃k m:H,k<=nn/\i= M J k/\f= M J m/\m=zm (ws.take k) Wh/\(∀x∈ws.take k,x≠Wh)/\Below w.1.size w wr) (λ_ i _=>nn - (F i).toNat)
  case atStart=>exact⟨0,0,aV _,rfl,rfl,rfl,by simp,fA HB1.q _⟩
  case round=>
   obtain⟨k,m,hk,rfl,rfl,hm,hne,hbw⟩:=hrel;have hmt:m<=Wh.length:=by rw[hm];exact Xq _ _
   have hml:m<=1000000:=by omega
   by_cases hlt:k<nn
   .obtain⟨x,b',o,hx,rfl,hc⟩:=(HR.q.below hbw rfl).at_ hlt
    have hc0:=hc 0 _ rfl;simp only[jo,bM] at hc0;have hxw:x∈ws:=bQ hx;have hxl:=HW.q x hxw;have bE:=g hbw;have HM:=g hm;have jG:=g hne;have lI:=g hx;have gI:=g hxw;have HC:=g (HH.q.below hbw);have c1:=HC.q.c1;have z1:=f1 HC.q 1;clear hc hbw hm hne hx hxw
    cases hxe:x==Wh
    .clear c1 z1
     have END:Hid (∀(W':O)(q:H),Below w.1.size w W'->jw x Wh=q->∃k' m':H,k'<=nn/\Q J ((k:A)+1)= M J k'/\Q J (max (m:A) (q:A))= M J m'/\m'=zm (ws.take k') Wh/\(∀y∈ws.take k',y≠Wh)/\Below w.1.size w W'):=g (λW' q hb hq=>
      ⟨k+1,max m q,by omega,by rw[Ce];rfl,dF (Q J) ah,by rw[eO,lI.q,Option.toList_some,Pv,hq,<-HM.q],λy hy=>by
       rw[eO,lI.q] at hy;rcases bJ.1 hy with hy|hy
       .exact jG.q y hy
       .obtain rfl:y=x:=by simpa using hy
        exact λe=>by rw[e] at hxe;simp at hxe,hb⟩)
     go_wp2_with fail
     go_loopw [11] (λj wx=>∃W,W=wx/\∃q:H,j= M J q/\q<=Wh.length/\q<=x.length/\jw (x.drop q) (Wh.drop q)+q=jw x Wh/\Below w.1.size w W) (λj _=>Wh.length - (F j).toNat)
     case atStart=>exact⟨_,rfl,0,rfl,aV _,aV _,by simp,bE.q⟩
     case round=>
      obtain⟨W,rfl,q,rfl,hqT,hqx,hcm,hbx⟩:=hrel;have iT:=g hbx;have HCM:=g hcm;clear hbx hcm;by_cases h1:q<x.length
      .by_cases h2:q<Wh.length
       .have hd3:decide ((q:A)<min (x.length:A) (Wh.length:A))=L:=bA ah
        obtain⟨a1,ha1⟩:∃a1,x[q]?=I a1:=⟨_,eu h1⟩;obtain⟨a2,ha2⟩:∃a2,Wh[q]?=I a2:=⟨_,eu h2⟩;have hi1:=λW=>jH B x q a1 ha1 W
        have hi2:=λW=>jH B Wh q a2 ha2 W
        have HA1:=g ha1;have HA2:=g ha2;have HL:=g (⟨h1,h2⟩:_/\_);clear ha1 ha2 h1 h2;by_cases he:a1=a2
        .have hb:((a1.toNat:A)==(a2.toNat:A))=L:=by simp[he]
         have HE:=g he;clear he
         go_wp2_with (go_quiet (fail))
         go_roundw
         case rel=>exact⟨_,rfl,q+1,by go_num,HL.q.2,HL.q.1,by have:=MC HA1.q (HE.q▸HA2.q);have:=HCM.q;omega,fA iT.q _⟩
         case measure=>have:=HL.q.2;simp[F];omega
        .have hb:((a1.toNat:A)==(a2.toNat:A))=C:=aR.2 (λe=>he (mV.1 ah))
         have HE:=g he;clear he
         go_wp2_with (go_quiet (fail))
         go_roundw
         case rel=>exact END.q _ q (fA iT.q _) (by have:=xO (.inr (.inr ⟨a1,a2,HA1.q,HA2.q,HE.q⟩));have:=HCM.q;omega)
         case measure=>simp[F];omega
       .have hd3:decide ((q:A)<min (x.length:A) (Wh.length:A))=C:=aX ah
        have HL:=g h2;clear h2
        go_wp2_with (go_quiet (fail))
        go_roundw
        case rel=>exact END.q _ q (fA iT.q _) (by have:=xO (x:=x) (t:=Wh) (k:=q) (.inr (.inl (by have:=HL.q;omega)));have:=HCM.q;omega)
        case measure=>simp[F];omega
      .have hd3:decide ((q:A)<min (x.length:A) (Wh.length:A))=C:=aX ah
       have HL:=g h1;clear h1
       go_wp2_with (go_quiet (fail))
       go_roundw
       case rel=>exact END.q _ q (fA iT.q _) (by have:=xO (x:=x) (t:=Wh) (k:=q) (.inl (by have:=HL.q;omega));have:=HCM.q;omega)
       case measure=>simp[F];omega
    .obtain⟨q,hq⟩:∃q:H,q=p+Wh.length:=⟨_,rfl⟩
     have hxW:x=Wh:=by simpa using hxe
     have hqi:(p:A)+(x.length:A)=(q:A):=by rw[hxW];omega
     have Iu:q<=1000000:=by omega
     have ht:=HC.q.to Wh.length rfl hTl q hq;have HT2:=g ht.1;have ng:=g ((Mv.of_below (R:=R) (c:=c) bE.q).trans ht.2);have RH:Hid (eT ws l= .ok (k,l.drop Wh.length)):=g (by
      unfold eT;rw[<-HT.q,<-HWH.q,findIdx?_take (λs=>s==Wh) ws k (Ec.2 (λy hy=>by simpa using jG.q y hy)) x lI.q hxe])
     clear ht hq hxW;go_wp2_with fail;go_ret;show nT R s c n w _ _ _ _;rw[HX.q,RH.q];exact⟨rfl,q,HT2.q,ng.q⟩
   .obtain rfl:k=nn:=by omega
    have hF:∀W,U E 133 #[M J ((p:A)+(m:A)),M J 220] W (λe w'=>e= .panicked (oH (p+m) 220)/\w'=W):=λW=>by
     have:=mJ (p+m) 220 W
     rwa[Ce] at this
    have HF:=λW=>g (hF W)
    have htk:ws.take k=ws:=dR (by rw[HR.q.len];exact aA _);rw[htk] at hm hne;have RH:Hid (eT ws l= .error (l.drop m,220)):=g (by
     unfold eT;rw[<-HT.q,<-HWH.q,Ec.2 (λy hy=>by simpa using hne y hy),<-hm])
    have bE:=g hbw;have HC:=g (HH.q.below hbw);have c1:=HC.q.c1;clear hm hne hbw hF htk;go_wp2_with fail;refine(HF _).q.mono ?_;rintro e w4 ⟨rfl,rfl⟩;refine⟨rfl,?_⟩;show nT R s c n w _ _ _ _;rw[HX.q,RH.q];refine⟨?_,Same.of_below bE.q (λ_ _ h=>h)⟩;rw[show s.length - (l.drop m).length=p+m by rw[kz];omega]
end Yd
