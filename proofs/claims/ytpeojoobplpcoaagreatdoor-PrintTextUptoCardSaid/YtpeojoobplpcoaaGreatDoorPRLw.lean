import Derived.Test.YtpeojoobplpcoaaGreatDoorPLawSt
import Derived.Test.YtpeojoobplpcoaaGreatDoorRows
import Derived.ProofKit
import Derived.OpenShut
import Derived.Deep.Slices
import Derived.Lib.AtoiAllCases
import Derived.Lib.AtoiErrMem
import Derived.Laws.RangeString
import Derived.Lib.MapLaws
import Derived.Laws.Externs
set_option linter.all false
set_option maxRecDepth 200000
set_option maxHeartbeats 8000000
namespace Yd
open Go Go.RowKit Go.Proofs Go.ChangeShapes Go.WideShapes Go.ChangeAt
open Go.Proofs.YtpeojoobplpcoaaGreatDoor.Rows (uptoBulk uptoBulkAll)
section
variable {H:Type}{enc:TypeId × Value->H}{w:World}{base:Nat}{spare:Nat->Bool}{held:Bool}
variable {N:Nat}
theorem acE:Tryz.prog.cellsOf 3=1:=ay
theorem acF:Tryz.prog.cellsOf 9=1:=ay
end
end Yd
namespace Yd
open Go Go.RowKit Go.Proofs
open Utf8 renaming decode->d
def J7 (acc:Nat)(l:Bs):Nat:=l.foldl (λn c=>n*10+(c.toNat - 48)) acc
theorem Sg:∀(l:Bs)(acc:Nat),acc<=J7 acc l
 |[],_=>aB _
 |c::r,acc=>bX ah (Sg r (acc*10+(c.toNat - 48)))
theorem Ih:∀(l:Bs)(acc:Nat),(∀c∈l,jf c=true)->Lib.parseUint10 acc l= .ok (J7 acc l)\/(Lib.parseUint10 acc l= .range/\1000000<=J7 acc l)
 |[],_,_=> .inl rfl
 |c::r,acc,h=>by
  have hc:=h c ak;have hc':48<=c.toNat/\c.toNat<=57:=by
   unfold jf at hc;simp only[aO,aW] at hc;exact hc
  have hg:=Sg r (acc*10+(c.toNat - 48));unfold Lib.parseUint10;rw[av hc']
  split
  .exact .inr ⟨rfl,bX ah hg⟩
  .split
   .exact .inr ⟨rfl,bX ah hg⟩
   .exact Ih r _ (λx hx=>h x (by simp[hx]))
theorem Rq (l:Bs)(hne:l≠[])(h:∀c∈l,jf c=true):Lib.atoiAll l= .ok (qJ l:Int)\/(Lib.atoiAll l= .range/\1000000<=qJ l):=by
 cases l with
 |nil=>exact absurd rfl hne
 |cons c r=>
  have hc:=h c ak;unfold jf at hc;simp only[aO,aW] at hc;have h1:48<=c.toNat:=hc.1;unfold Lib.atoiAll;simp only[];rw[au ah];unfold Lib.parseMag;rw[au ak];have hv:qJ (c::r)=J7 0 (c::r):=rfl;rcases Ih (c::r) 0 h with e|⟨e,e2⟩
  .rw[e]
   simp only[];by_cases hb:9223372036854775808<=J7 0 (c::r)
   .rw[av ⟨by omega,hb⟩];exact .inr ⟨rfl,by rw[hv];omega⟩
   .rw[au ah,au ah,au ah];exact .inl (by rw[hv])
  .rw[e];exact .inr ⟨rfl,e2⟩
def Az (w:World):Prop:=∃ev,w.cell? ⟨9,0,none⟩=some ev/\(ev= .nilIface\/∃te pe,ev= .iface te pe)
theorem Az.below {w w':World}(h:Az w)(hb:Below w.1.size w w'):Az w':=let⟨ev,h1,h2⟩:=h;⟨ev,bn hb rfl h1,h2⟩
theorem aee (l:Bs)(hne:l≠[])(h:∀c∈l,jf c=true)(hlim:l.length<=1000000)(w:World)(hE:Az w):
  Calls Tryz.prog 183 #[.string ⟨l.toArray⟩] w λe w'=>∃(k:Int)(er:Value),e= .returned (.tuple #[.int .i64 k,er])/\Below w.1.size w w'/\((er= .nilIface/\k=(qJ l:Int)/\qJ l<=9223372036854775807)\/(999<qJ l/\∃T p,er= .iface T p)):=by
 obtain⟨ev,hv,hev⟩:=hE;rcases Rq l hne h with e|⟨e,e2⟩
 .refine(Tryz.strconv_Atoi_ok ⟨l.toArray⟩ (by rw[gQ];omega) (qJ l) e w).mono ?_
  rintro e w' ⟨rfl,hw⟩;refine⟨_,_,rfl,?_,.inl ⟨rfl,rfl,?_⟩⟩
  .rcases hw with rfl|⟨t,rfl⟩
   .exact Below.refl _ _
   .exact Lib.bytesWorld_below _ _ _
  .have:=(Lib.atoiAll_bounds e).2;omega
 .refine(Tryz.strconv_Atoi_range ⟨l.toArray⟩ (by rw[gQ];omega) e ev w hv hev).mono ?_
  rintro e w' ⟨N,rfl,_,_,hb⟩;exact⟨_,_,rfl,hb,.inr ⟨by omega,_,_,rfl⟩⟩
theorem anh (a b c:UInt8)(r:List UInt8):ByteArray.extract ⟨⟨a::b::c::r⟩⟩ 0 3=⟨#[a,b,c]⟩:=by
 apply ByteArray.ext
 simp[ByteArray.data_extract]
theorem anb (s:ByteArray)(h3:3<=s.size)(hr:(d s 0).1=65533):(d s 0).2=3↔s.extract 0 3=⟨#[239,191,189]⟩:=by
 obtain⟨⟨l⟩⟩:=s
 match l,h3 with
 |a::b::c::r,_=>
  have ha:ByteArray.get! ⟨⟨a::b::c::r⟩⟩ (0+0)=a:=rfl;have hb:ByteArray.get! ⟨⟨a::b::c::r⟩⟩ (0+1)=b:=rfl;have hc:ByteArray.get! ⟨⟨a::b::c::r⟩⟩ (0+2)=c:=rfl;have k0:=a.toNat_lt;have k1:=b.toNat_lt;have k2:=c.toNat_lt;have hsz:ByteArray.size ⟨⟨a::b::c::r⟩⟩=r.length+3:=rfl;rw[anh];have hiff:((⟨#[a,b,c]⟩:ByteArray)=⟨#[239,191,189]⟩)↔(a.toNat=239/\b.toNat=191/\c.toNat=189):=by
   constructor
   .intro h
    injection h with h;simp at h;obtain⟨rfl,rfl,rfl⟩:=h
    decide
   .rintro⟨h1,h2,h3⟩
    have e1:a=239:=jm.1 h1;have e2:b=191:=jm.1 h2;have e3:c=189:=jm.1 h3;rw[e1,e2,e3]
  rw[hiff]
  constructor
  .intro h
   unfold d at h hr;simp only[ha,hb,hc] at h hr
   split at h
   .simp at h
   rename_i g0
   rw[au g0] at hr
   split at h
   .split at h <;> simp at h
   rename_i g1
   rw[au g1] at hr
   split at h
   .rename_i g2
    rw[av g2] at hr
    split at h
    .rename_i g3
     rw[av g3] at hr;simp only[aO,aW,vV] at g2 hr;omega
    .simp at h
   rename_i g2
   split at h
   .split at h <;> simp at h
   .simp at h
  .rintro⟨h1,h2,h3⟩
   unfold d;simp only[ha,hb,hc,h1,h2,h3,hsz];simp[Utf8.valid]
attribute [local go_sem] Oper.semAt_some
def afG (s:ByteArray):Int:=if 0<s.size then(if okB s 0=true then((d s 0).1:Int) else -1) else -1
def okR (s:ByteArray)(pos:Nat):Bool:=okB s pos && (kC ((d s pos).1:Int)||(!decide (pos=0) && kS ((d s pos).1:Int)))
def rW (s:ByteArray):Nat->Nat->Bool
 |0,_=>true
 |n+1,pos=>if pos<s.size then okR s pos && rW s n (pos+(d s pos).2) else true
end Yd
namespace Yd
open Bool renaming false->A,true->E
open Option renaming some->M
open Go Go.RowKit Go.Proofs Tryz
open Below renaming refl->V
open Go renaming World->Z
open Go.IntKind renaming i64->O
open Go.RowKit renaming Below->Q
open Go.Value renaming bool->I,int->S
open RowKit renaming intOf->H
open Tryz renaming prog->C,underlying9->G
open Utf8 renaming decode->L
open Yd renaming hid->g
open _root_ renaming Int->F,Nat->K,List->U
theorem J8 (c:K)(hc:c<=1114111)(hs:¬(55296<=c/\c<=57343)):Utf8.encode (c:F)=⟨(Lib.encodeRune (c:F)).toArray⟩:=by
 have hv:Utf8.valid (c:F)=E:=by simp[Utf8.valid];omega
 unfold Utf8.encode Lib.encodeRune;simp only[hv,bY,jB];have hb:∀(z:F)(n:K),z=(n:F)->z.toNat.toUInt8=UInt8.ofNat n:=λz n h=>by subst h;simp
 by_cases h1:c<128
 .rw[av h1,Lib.encodeRuneZ_one ah ah]
  simp only[eu,mE,hb _ c rfl]
 rw[au h1];by_cases h2:c<2048
 .rw[av h2,Lib.encodeRuneZ_two ah ah]
  simp only[eu,mE,hb (192+(c:F) / 64) (192+c / 64) ah,hb (128+(c:F) % 64) (128+c % 64) ah]
 rw[au h2];by_cases h3:c<65536
 .rw[av h3,Lib.encodeRuneZ_three ah]
  simp only[eu,mE,hb (224+(c:F) / 4096) (224+c / 4096) ah,hb (128+(c:F) / 64 % 64) (128+c / 64 % 64) ah,hb (128+(c:F) % 64) (128+c % 64) ah]
 .rw[au h3,Lib.encodeRuneZ_four ah ah]
  simp only[eu,mE,hb (240+(c:F) / 262144) (240+c / 262144) ah,hb (128+(c:F) / 4096 % 64) (128+c / 4096 % 64) ah,hb (128+(c:F) / 64 % 64) (128+c / 64 % 64) ah,hb (128+(c:F) % 64) (128+c % 64) ah]
theorem Oe {l:Bs}(h:okB ⟨l.toArray⟩ 0=E):¬((L ⟨l.toArray⟩ 0).1=65533/\(L ⟨l.toArray⟩ 0).2=1):=by
 rintro⟨h1,h2⟩;unfold okB at h;rw[h1,h2] at h;simp at h
theorem Ul (l:Bs)(hne:l≠[])(h:okB ⟨l.toArray⟩ 0=E):
  Utf8.encode ((L ⟨l.toArray⟩ 0).1:F)=⟨(l.take (L ⟨l.toArray⟩ 0).2).toArray⟩/\L ⟨(l.take (L ⟨l.toArray⟩ 0).2).toArray⟩ 0=L ⟨l.toArray⟩ 0/\(L ⟨l.toArray⟩ 0).2<=4:=by
 have hl:0<l.length:=BU.2 hne;have hle:=zy l hne;have he:=Lib.encode_decode l hne (Oe h);have hd:L ⟨l.toArray⟩ 0=Lib.decodeL l:=rfl;have hd2:∀u:Bs,L ⟨u.toArray⟩ 0=Lib.decodeL u:=λ_=>rfl
 have hg:∀(n k:K),k<n->(l.take n).getD k 0=l.getD k 0:=λn k h=>by simp[List.getD,h]
 have hok:=Oe h;rw[hd] at hle hok ⊢;rw[hd2];rw[Lib.decodeL_N (l.take _)];have hN:=Lib.decodeL_N l;rcases Lib.decodeN_shape l.length (l.getD 0 0).toNat (l.getD 1 0).toNat (l.getD 2 0).toNat (l.getD 3 0).toNat with⟨c,e⟩|⟨c1,c2,c3,cv,e⟩|⟨c1,c2,c3,c4,cv,cs,e⟩|⟨c1,c2,c3,c4,c5,cv,cw,e⟩|e
 .rw[e] at hN
  rw[hN] at hle he ⊢;refine⟨by rw[J8 _ (by simp only[];omega) (by simp only[];omega),he],?_,by simp⟩;simp only[fE];rw[hg 1 0 ah];unfold Lib.decodeN;rw[av c]
 .rw[e] at hN
  rw[hN] at hle he ⊢;simp only at hle;refine⟨by rw[J8 _ (by simp only[];omega) (by simp only[];omega),he],?_,by simp⟩;simp only[fE];rw[hg 2 0 ah,hg 2 1 ah,qY ah];unfold Lib.decodeN;rw[au ah,av ⟨c1,by omega,c3⟩,av ah]
 .rw[e] at hN
  rw[hN] at hle he ⊢;simp only at hle;refine⟨by rw[J8 _ (by simp only[];omega) (by simp only[];omega),he],?_,by simp⟩;simp only[fE];rw[hg 3 0 ah,hg 3 1 ah,hg 3 2 ah,qY ah];unfold Lib.decodeN;rw[au ah,au ah,av ⟨c1,⟨by omega,c3⟩,⟨by omega,c4⟩⟩,av ah]
 .rw[e] at hN
  rw[hN] at hle he ⊢;simp only at hle;refine⟨by rw[J8 _ (by simp only[];omega) (by simp only[];omega),he],?_,by simp⟩;simp only[fE];rw[hg 4 0 ah,hg 4 1 ah,hg 4 2 ah,hg 4 3 ah,qY ah];unfold Lib.decodeN;rw[au ah,au ah,au ah,av ⟨c1,⟨by omega,c3⟩,⟨by omega,c4⟩,⟨by omega,c5⟩⟩,av ah]
 .exfalso
  rw[e] at hN;exact hok (by rw[hN];exact⟨rfl,rfl⟩)
theorem Le (q:UInt8->Bool):∀(l:Bs)(k:K)(b:UInt8),(∀x∈l.take k,q x=E)->l[k]?=M b->q b=A->l.takeWhile q=l.take k
 |[],_,_,_,h,_=>by simp at h
 |a::t,0,b,_,h,hb=>by
  obtain rfl:a=b:=by simpa using h
  rw[nE,hb];rfl
 |a::t,k+1,b,ha,h,hb=>by
  rw[nE,ha a ak,av rfl,List.take_succ_cons,Le q t k b (λx hx=>ha x (by simp[hx])) (by simpa using h) hb]
theorem Wz (q:UInt8->Bool)(l:Bs)(h:∀x∈l,q x=E):l.takeWhile q=l:=by
 induction l with
 |nil=>rfl
 |cons a t ih=>rw[nE,h a ak,av rfl,ih (λx hx=>h x (by simp[hx]))]
theorem Si (b:UInt8):o8 b=((decide (b.toNat=46)||decide (b.toNat=95))||(decide (48<=b.toNat) && decide (b.toNat<=57))||(decide (97<=b.toNat) && decide (b.toNat<=122))||(decide (65<=b.toNat) && decide (b.toNat<=90))):=by
 have e:∀c:UInt8,(b==c)=decide (b.toNat=c.toNat):=λc=>by
  by_cases h:b=c
  .simp[h]
  .rw[aU.2 h,bq (λe=>h (jm.1 e))]
 unfold o8;rw[e 46,e 95];rfl
theorem Us {R p:K}{s l:Bs}{c:bE}{n:aH}(w:Z)(h:eP w R s p l c n):
  Calls C 179 #[.pointer (M ⟨R,0,none⟩)] w (dw (.string ⟨(fq l).toArray⟩) w):=by
 have c0:=h.c0;have c1:=h.c1;have hlen:=h.len;have hlim:=h.lim;have hsl:=λW=>oZ G s p ah W
 rw[h.d] at hsl;have hll:l.length<=1000000:=by omega
 clear h hlen hlim;go_enter func179,ntmps179
 go_wp2_with (go_quiet (fail))
 clear hsl c0 c1
 go_loopw [] (λwr=>∃k:K,k<=l.length/\wr.1[w.1.size]?=M (.stringIter ⟨l.toArray⟩ k)/\Q w.1.size w wr/\∀x∈l.take k,o8 x=E) (λwr=>l.length - wr.iterPos w.1.size)
 case atStart=>exact⟨0,aZ _,World.iter_heap (w.drewN _) ⟨l.toArray⟩ 0,gu (V _ _) _|>.trans (jV (w.drewN _) ⟨l.toArray⟩),by simp⟩
 case round=>
  obtain⟨k,hk,hit,hbw,hall⟩:=hrel;by_cases hp:k<l.length
  .obtain⟨b,t,hbt⟩:∃b t,l.drop k=b::t:=⟨_,_,oD hp⟩
   have hnx:∀ty,(Instr.next (.pointer (M ⟨w.1.size,0,none⟩)) E ty).run C wr=_:=λty=>Lib.run_next_any_at wr w.1.size ⟨l.toArray⟩ k ty hit (by rw[gQ];exact hp)
   have hwd:=rZ l k;rw[hbt] at hwd;rw[hwd] at hnx;have hkb:l[k]?=M b:=by
    have:=bU (λl=>l[0]?) hbt
    simpa using this
   obtain⟨r,d,hr,hd⟩:∃(r:F)(d:K),r=((L ⟨(b::t).toArray⟩ 0).1:F)/\d=(L ⟨(b::t).toArray⟩ 0).2:=⟨_,_,rfl,rfl⟩;have hbr:(b.toNat<128/\r=b.toNat/\d=1)\/(128<=b.toNat/\128<=r):=by
    rcases gP b.toNat 128 with h1|h1
    .rw[qm b t h1] at hr hd;exact .inl ⟨h1,hr,hd⟩
    .have:=(zx b t h1).1;exact .inr ⟨h1,by omega⟩
   rw[<-hr,<-hd] at hnx;have hit2:=Lib.iterAt_heap wr w.1.size ⟨l.toArray⟩ k (k+d) hit;have hbw2:=Lib.below_iterAt hbw (k:=w.1.size) (aB _) ⟨l.toArray⟩ (k+d);have uH:=g hbr;have DX:=g hall;have Og:=g hkb;have HB2:=g hbw2;have HI2:=g hit2;have HIT:=g hit;have hsh:=λW=>AV G l k ah W
   have hcl:r=46\/r=95\/(48<=r/\r<=57)\/(97<=r/\r<=122)\/(65<=r/\r<=90)\/r<46\/r=47\/(57<r/\r<65)\/(90<r/\r<95)\/r=96\/122<r:=by omega
   clear hbr hall hkb hbw2 hit2 hbw hwd hr hd hbt hit;have GO:Hid ((r=46\/r=95\/(48<=r/\r<=57)\/(97<=r/\r<=122)\/(65<=r/\r<=90))->∃k':K,k'<=l.length/\(wr.iterAt w.1.size ⟨l.toArray⟩ (k+d)).1[w.1.size]?=M (.stringIter ⟨l.toArray⟩ k')/\Q w.1.size w (wr.iterAt w.1.size ⟨l.toArray⟩ (k+d))/\∀x∈l.take k',o8 x=E):=g (λhr=>by
    rcases uH.q with⟨h1,h2,h3⟩|⟨h1,h2⟩
    .refine⟨k+d,by omega,HI2.q,HB2.q,λx hx=>?_⟩
     rw[h3,jd,Og.q] at hx;rcases dm.1 hx with hx|hx
     .exact DX.q x hx
     .obtain rfl:x=b:=by simpa using hx
      rw[Si];simp only[wB,aO,aW];omega
    .exfalso;omega)
   have ME:Hid ((r=46\/r=95\/(48<=r/\r<=57)\/(97<=r/\r<=122)\/(65<=r/\r<=90))->l.length - (wr.iterAt w.1.size ⟨l.toArray⟩ (k+d)).iterPos w.1.size<l.length - wr.iterPos w.1.size):=g (λhr=>by
    rcases uH.q with⟨h1,h2,h3⟩|⟨h1,h2⟩
    .rw[iterPos_of HI2.q,iterPos_of HIT.q];omega
    .exfalso;omega)
   have ST:Hid (¬(r=46\/r=95\/(48<=r/\r<=57)\/(97<=r/\r<=122)\/(65<=r/\r<=90))->fq l=l.take k):=g (λhr=>by
    refine Le o8 l k b DX.q Og.q ?_;rw[Si];simp only[Bool.or_eq_false_iff,Bool.and_eq_false_iff,decide_eq_false_iff_not];rcases uH.q with⟨h1,h2,h3⟩|⟨h1,h2⟩ <;> omega)
   rcases hcl with h1|h1|⟨h1,h2⟩|⟨h1,h2⟩|⟨h1,h2⟩|h1|h1|⟨h1,h2⟩|⟨h1,h2⟩|h1|h1
   .subst h1
    go_wp2_with fail;go_roundw
    case rel=>exact GO.q aj
    case measure=>exact ME.q aj
   .subst h1
    go_wp2_with fail;go_roundw
    case rel=>exact GO.q aj
    case measure=>exact ME.q aj
   .have e46:(r !=46)=E:=mM.2 ah
    have Sj:(r !=95)=E:=mM.2 ah;have d0:decide (r<48)=A:=bq ah;have d1:decide (57<r)=A:=bq ah;have d2:decide (r<97)=E:=bN ah;have d3:decide (122<r)=A:=bq ah;have d4:decide (r<65)=E:=bN ah;have d5:decide (90<r)=A:=bq ah;go_wp2_with fail;go_roundw
    case rel=>exact GO.q ah
    case measure=>exact ME.q ah
   .have e46:(r !=46)=E:=mM.2 ah
    have Sj:(r !=95)=E:=mM.2 ah;have d0:decide (r<48)=A:=bq ah;have d1:decide (57<r)=E:=bN ah;have d2:decide (r<97)=A:=bq ah;have d3:decide (122<r)=A:=bq ah;have d4:decide (r<65)=A:=bq ah;have d5:decide (90<r)=E:=bN ah;go_wp2_with fail;go_roundw
    case rel=>exact GO.q ah
    case measure=>exact ME.q ah
   .have e46:(r !=46)=E:=mM.2 ah
    have Sj:(r !=95)=E:=mM.2 ah;have d0:decide (r<48)=A:=bq ah;have d1:decide (57<r)=E:=bN ah;have d2:decide (r<97)=E:=bN ah;have d3:decide (122<r)=A:=bq ah;have d4:decide (r<65)=A:=bq ah;have d5:decide (90<r)=A:=bq ah;go_wp2_with fail;go_roundw
    case rel=>exact GO.q ah
    case measure=>exact ME.q ah
   .have e46:(r !=46)=E:=mM.2 ah
    have Sj:(r !=95)=E:=mM.2 ah;have d0:decide (r<48)=E:=bN ah;have d1:decide (57<r)=A:=bq ah;have d2:decide (r<97)=E:=bN ah;have d3:decide (122<r)=A:=bq ah;have d4:decide (r<65)=E:=bN ah;have d5:decide (90<r)=A:=bq ah;go_wp2_with fail;go_ret;exact⟨by rw[ST.q ah];rfl,HB2.q⟩
   .subst h1
    go_wp2_with fail;go_ret;exact⟨by rw[ST.q aj];rfl,HB2.q⟩
   .have e46:(r !=46)=E:=mM.2 ah
    have Sj:(r !=95)=E:=mM.2 ah;have d0:decide (r<48)=A:=bq ah;have d1:decide (57<r)=E:=bN ah;have d2:decide (r<97)=E:=bN ah;have d3:decide (122<r)=A:=bq ah;have d4:decide (r<65)=E:=bN ah;have d5:decide (90<r)=A:=bq ah;go_wp2_with fail;go_ret;exact⟨by rw[ST.q ah];rfl,HB2.q⟩
   .have e46:(r !=46)=E:=mM.2 ah
    have Sj:(r !=95)=E:=mM.2 ah;have d0:decide (r<48)=A:=bq ah;have d1:decide (57<r)=E:=bN ah;have d2:decide (r<97)=E:=bN ah;have d3:decide (122<r)=A:=bq ah;have d4:decide (r<65)=A:=bq ah;have d5:decide (90<r)=E:=bN ah;go_wp2_with fail;go_ret;exact⟨by rw[ST.q ah];rfl,HB2.q⟩
   .subst h1
    go_wp2_with fail;go_ret;exact⟨by rw[ST.q aj];rfl,HB2.q⟩
   .have e46:(r !=46)=E:=mM.2 ah
    have Sj:(r !=95)=E:=mM.2 ah;have d0:decide (r<48)=A:=bq ah;have d1:decide (57<r)=E:=bN ah;have d2:decide (r<97)=A:=bq ah;have d3:decide (122<r)=E:=bN ah;have d4:decide (r<65)=A:=bq ah;have d5:decide (90<r)=E:=bN ah;go_wp2_with fail;go_ret;exact⟨by rw[ST.q ah];rfl,HB2.q⟩
  .have hnx:∀ty,(Instr.next (.pointer (M ⟨w.1.size,0,none⟩)) E ty).run C wr=_:=λty=>Lib.run_next_end_at wr w.1.size ⟨l.toArray⟩ k ty hit (by rw[gQ];exact hp)
   have HX:Hid (fq l=l):=g (Wz o8 l (by rw[iH ah] at hall;exact hall));have HB:=g hbw;clear hall hbw;go_wp2_with fail;go_ret;exact⟨by rw[HX.q];rfl,HB.q⟩
theorem DY (r:F)(w:Z):Calls C 194 #[.int .i32 r] w (dw (I (kS r)) w):=by
 by_cases h1:48<=r <;> by_cases h2:r<=57
 all_goals
  go_enter func194,ntmps194;go_wp2_with fail;go_ret;exact⟨by simp[kS,h1,h2],V _ _⟩
def mF (l:Bs):Bs:=if l.head?=M 45 then(if(l.tail.takeWhile jf).length=0 then [] else l.take ((l.tail.takeWhile jf).length+1)) else l.takeWhile jf
theorem Ja (b:UInt8):jf b=(decide (48<=b.toNat) && decide (b.toNat<=57)):=rfl
def hz (l:Bs):K:=if l.head?=M 45 then 1 else 0
def FB (l:Bs)(k e:K):Prop:=(k=0/\e=0)\/(hz l<=k/\(∀x∈(l.take k).drop (hz l),jf x=E)/\e=(if k=hz l then 0 else k))
theorem WA {q:UInt8->Bool}{l:Bs}{k:K}(h:∀x∈l.take k,q x=E)(hs:k=l.length\/∃b,l[k]?=M b/\q b=A)(hk:k<=l.length):(l.takeWhile q).length=k/\l.takeWhile q=l.take k:=by
 rcases hs with rfl|⟨b,hb,hq⟩
 .rw[List.take_length] at h ⊢
  rw[Wz q l h];exact⟨rfl,rfl⟩
 .rw[Le q l k b h hb hq]
  exact⟨by rw[fE];omega,rfl⟩
theorem Lf {l:Bs}{k e:K}(h:FB l k e)(hk:k<=l.length)(hs:k=l.length\/∃b,l[k]?=M b/\jf b=A/\¬(k=0/\b=45)):mF l=l.take e/\e<=l.length:=by
 unfold mF;by_cases h45:l.head?=M 45
 .rw[av h45]
  obtain⟨t,rfl⟩:∃t,l=45::t:=by cases l with
   |nil=>simp at h45
   |cons a t=>exact⟨t,by simpa using h45⟩
  have hz1:hz (45::t)=1:=rfl;unfold FB at h;rw[hz1] at h;rcases h with⟨rfl,rfl⟩|⟨h1,h2,h3⟩
  .exfalso
   rcases hs with h|⟨b,hb,_,hn⟩
   .simp at h
   .exact hn ⟨rfl,by simpa using hb.symm⟩
  .obtain⟨j,rfl⟩:∃j,k=j+1:=⟨k - 1,by omega⟩
   have ht:((45::t:Bs).tail.takeWhile jf).length=j/\_:=WA (l:=t) (k:=j) (by simpa using h2) (by
    rcases hs with h|⟨b,hb,hq,_⟩
    .exact .inl (by simpa using h)
    .exact .inr ⟨b,by simpa using hb,hq⟩) (by simpa using hk)
   rw[ht.1];by_cases hj:j=0
   .subst hj;rw[av rfl,h3,av rfl];exact⟨rfl,aZ _⟩
   .rw[au hj,h3,au ah];exact⟨rfl,hk⟩
 .rw[au h45]
  have hz0:hz l=0:=au h45;unfold FB at h;rw[hz0] at h;have he:e=k/\∀x∈l.take k,jf x=E:=by
   rcases h with⟨rfl,rfl⟩|⟨_,h2,h3⟩
   .exact⟨rfl,by simp⟩
   .exact⟨by rw[h3];split <;> omega,by simpa using h2⟩
  rw[he.1];exact⟨(WA he.2 (by
   rcases hs with h|⟨b,hb,hq,_⟩
   .exact .inl h
   .exact .inr ⟨b,hb,hq⟩) hk).2,hk⟩
theorem aj5 {l:Bs}{k e:K}{b:UInt8}(h:FB l k e)(hb:l[k]?=M b)(hd:jf b=E):FB l (k+1) (k+1):=by
 have hzl:hz l<=k:=by
  rcases h with⟨rfl,_⟩|⟨h1,_⟩
  .unfold hz
   split
   .rename_i h45
    exfalso
    cases l with
    |nil=>simp at hb
    |cons a t=>
     obtain rfl:a=b:=by simpa using hb
     obtain rfl:a=45:=by simpa using h45
     exact absurd hd aj
   .omega
  .exact h1
 refine .inr ⟨by omega,λx hx=>?_,by rw[au ah]⟩;rw[jd,hb,List.drop_append_of_le_length (by rw[fE];have:=(bO.1 hb).1;omega)] at hx;rcases dm.1 hx with hx|hx
 .rcases h with⟨rfl,_⟩|⟨_,h2,_⟩
  .simp at hx
  .exact h2 x hx
 .obtain rfl:x=b:=by simpa using hx
  exact hd
theorem aef {l:Bs}{e:K}(h:FB l 0 e)(hb:l[0]?=M 45):e=0/\FB l 1 0:=by
 have h45:l.head?=M 45:=by cases l with
  |nil=>simp at hb
  |cons a t=>simpa using hb
 have hz1:hz l=1:=av h45;refine⟨?_,.inr ⟨by omega,λx hx=>?_,by rw[hz1,av rfl]⟩⟩
 .rcases h with⟨_,h⟩|⟨h1,_⟩
  .exact h
  .omega
 .rw[hz1] at hx
  cases l with
  |nil=>simp at hx
  |cons a t=>simp at hx
theorem Sk (l:Bs)(hlim:l.length<=1000000)(w:Z):Calls C 182 #[.string ⟨l.toArray⟩] w (uF (.string ⟨(mF l).toArray⟩) (.string ⟨(l.drop (mF l).length).toArray⟩) w):=by
 obtain⟨X,hX⟩:∃X,X=mF l:=⟨_,rfl⟩;rw[<-hX];have HX:=g hX;have hbz:=gQ l;clear hX;go_enter func182,ntmps182;go_wp2_with fail
 go_step3
 go_wp2_with fail
 go_step3
 go_wp2_with fail
 go_loopw [4] (λv wr=>∃k e:K,v= S O e/\k<=l.length/\e<=l.length/\wr.1[w.1.size]?=M (.stringIter ⟨l.toArray⟩ k)/\Q w.1.size w wr/\FB l k e) (λ_ wr=>l.length - wr.iterPos w.1.size)
 case atStart=>exact⟨0,0,rfl,aZ _,aZ _,World.iter_heap w ⟨l.toArray⟩ 0,jV w ⟨l.toArray⟩,.inl ⟨rfl,rfl⟩⟩
 case round=>
  obtain⟨k,e,rfl,hk,arh,hit,hbw,hat⟩:=hrel;by_cases hp:k<l.length
  .obtain⟨b,t,hbt⟩:∃b t,l.drop k=b::t:=⟨_,_,oD hp⟩
   have hnx:∀ty,(Instr.next (.pointer (M ⟨w.1.size,0,none⟩)) E ty).run C wr=_:=λty=>Lib.run_next_any_at wr w.1.size ⟨l.toArray⟩ k ty hit (by rw[gQ];exact hp)
   have hwd:=rZ l k;rw[hbt] at hwd;rw[hwd] at hnx;have hkb:l[k]?=M b:=by
    have:=bU (λl=>l[0]?) hbt
    simpa using this
   obtain⟨r,d,hr,hd⟩:∃(r:F)(d:K),r=((L ⟨(b::t).toArray⟩ 0).1:F)/\d=(L ⟨(b::t).toArray⟩ 0).2:=⟨_,_,rfl,rfl⟩;have hbr:(b.toNat<128/\r=b.toNat/\d=1)\/(128<=b.toNat/\128<=r):=by
    rcases gP b.toNat 128 with h1|h1
    .rw[qm b t h1] at hr hd;exact .inl ⟨h1,hr,hd⟩
    .have:=(zx b t h1).1;exact .inr ⟨h1,by omega⟩
   rw[<-hr,<-hd] at hnx;have hit2:=Lib.iterAt_heap wr w.1.size ⟨l.toArray⟩ k (k+d) hit;have hbw2:=Lib.below_iterAt hbw (k:=w.1.size) (aB _) ⟨l.toArray⟩ (k+d);have uH:=g hbr;have HAT:=g hat;have Og:=g hkb;have HB2:=g hbw2;have HI2:=g hit2;have HIT:=g hit;have hDB:jf b=kS r:=by
    rw[Ja];unfold kS;rcases hbr with⟨h1,h2,h3⟩|⟨h1,h2⟩
    .rw[h2];congr 1 <;> exact decide_eq_decide.2 ah
    .rw[bq (show ¬b.toNat<=57 by omega),bq (show ¬r<=57 by omega),Bool.and_false,Bool.and_false]
   have HDB:=g hDB;clear hbr hat hkb hbw2 hit2 hbw hwd hr hd hbt hit hDB
   cases mQ:kS r
   .by_cases hsg:k=0/\r=45
    .obtain⟨rfl,rfl⟩:=hsg
     have ZJ:b=45/\d=1:=by
      rcases uH.q with⟨h1,h2,h3⟩|⟨h1,h2⟩
      .exact⟨jm.1 (by show b.toNat=45;omega),h3⟩
      .exfalso;omega
     obtain⟨rfl,rfl⟩:=ZJ;obtain⟨h0,h1⟩:=aef HAT.q Og.q;have H1:=g h1;have HI3:Hid ((wr.iterAt w.1.size ⟨l.toArray⟩ (0+1)).1[w.1.size]?=M (.stringIter ⟨l.toArray⟩ 1)):=HI2;clear h1
     go_wp2_with (first|(go_at_call 194;refine(DY _ _).mono ?_;rintro e w3 ⟨rfl,hb3⟩;rw[mQ];have HB3:=g (HB2.q.bZ hb3);have HI4:=g ((hb3.block w.1.size (by have:=(dh.1 HI2.q).1;exact this)).trans HI3.q);clear hb3)|fail)
     go_roundw
     case rel=>exact⟨1,0,rfl,by omega,aZ _,HI4.q,HB3.q,H1.q⟩
     case measure=>rw[iterPos_of HI4.q,iterPos_of HIT.q];omega
    .by_cases hk0:k=0
     .subst hk0
      rw[bA] at HB2;have ari:(r !=45)=E:=mM.2 (λe=>hsg ⟨rfl,e⟩);have HSG:=g hsg;clear hsg;have HE:=g (Lf HAT.q ah (.inr ⟨b,Og.q,by rw[HDB.q,mQ],λe=>HSG.q ⟨rfl,by rcases uH.q with⟨h1,h2,h3⟩|⟨h1,h2⟩ <;> (rw[e.2] at h1;simp at h1);rw[h2,e.2];rfl⟩⟩));have hsh:=λW=>AV G l e HE.q.2 W
      have hsl:=λW=>oZ G l e HE.q.2 W
      have hel:(l.take e).length=e:=by rw[fE];have:=HE.q.2;omega
      have WB:=g hel;clear hel
      go_wp2_with (first|(go_at_call 194;refine(DY _ _).mono ?_;rintro e w3 ⟨rfl,hb3⟩;rw[mQ];have HB3:=g (HB2.q.bZ hb3);clear hb3)|go_quiet (fail))
      change bodyPost _ _ _ Exit.ret _ _
      go_ret2
      exact⟨by rw[HX.q,HE.q.1,WB.q];rfl,gu HB3.q _⟩
     .have hk1:decide ((0:F)<(k:F))=E:=bN ah
      have hk2:decide (0<k)=E:=bN ah;have Sm:=g hk0;clear hk0 hsg;have HE:=g (Lf HAT.q ah (.inr ⟨b,Og.q,by rw[HDB.q,mQ],λe=>Sm.q e.1⟩));have hsh:=λW=>AV G l e HE.q.2 W
      have hsl:=λW=>oZ G l e HE.q.2 W
      have hel:(l.take e).length=e:=by rw[fE];have:=HE.q.2;omega
      have WB:=g hel;clear hel
      go_wp2_with (first|(go_at_call 194;refine(DY _ _).mono ?_;rintro e w3 ⟨rfl,hb3⟩;rw[mQ];have HB3:=g (HB2.q.bZ hb3);clear hb3)|go_quiet (fail))
      change bodyPost _ _ _ Exit.ret _ _
      go_ret2
      exact⟨by rw[HX.q,HE.q.1,WB.q];rfl,gu HB3.q _⟩
   .have hb1:d=1:=by
     rcases uH.q with⟨h1,h2,h3⟩|⟨h1,h2⟩
     .exact h3
     .simp[kS] at mQ;omega
    subst hb1;have H1:=g (aj5 HAT.q Og.q (by rw[HDB.q,mQ]))
    go_wp2_with (first|(go_at_call 194;refine(DY _ _).mono ?_;rintro e w3 ⟨rfl,hb3⟩;rw[mQ];have HB3:=g (HB2.q.bZ hb3);have HI4:=g ((hb3.block w.1.size (by have:=(dh.1 HI2.q).1;exact this)).trans HI2.q);clear hb3)|fail)
    go_roundw
    case rel=>exact⟨k+1,k+1,by go_num,by omega,by omega,HI4.q,HB3.q,H1.q⟩
    case measure=>rw[iterPos_of HI4.q,iterPos_of HIT.q];omega
  .have hnx:∀ty,(Instr.next (.pointer (M ⟨w.1.size,0,none⟩)) E ty).run C wr=_:=λty=>Lib.run_next_end_at wr w.1.size ⟨l.toArray⟩ k ty hit (by rw[gQ];exact hp)
   have HE:=g (Lf hat hk (.inl ah));have hsh:=λW=>AV G l e HE.q.2 W
   have hsl:=λW=>oZ G l e HE.q.2 W
   have hel:(l.take e).length=e:=by rw[fE];have:=HE.q.2;omega
   have WB:=g hel;have HB:=g hbw;clear hel hbw hat
   go_wp2_with (go_quiet (fail))
   change bodyPost _ _ _ Exit.ret _ _
   go_ret2
   exact⟨by rw[HX.q,HE.q.1,WB.q];rfl,gu HB.q _⟩
theorem aeg (i:K)(hi:i<=9)(W:Z):(callFunc 198 #[.int .u64 0,.int .u64 (i:F),.int .u64 0]).run C W= .ok (.value (.tuple #[.int .u64 (i:F),.int .u64 0])) W:=by
 rw[run_callFunc_extern (e:=add64Entry) func198 ay ay ay ay,run_add64 0 i 0 ah ah ah ah];rw[show(0+(i:F)+0) % 18446744073709551616=(i:F) by omega,show(0+(i:F)+0) / 18446744073709551616=0 by omega];rfl
theorem aeh (i:K)(hi:i<=9)(w:Z):Calls C 187 #[.agg #[.int .u64 0,I A,I A],.int .i32 ((48+i:K):F)] w (dw (.agg #[.int .u64 i,I A,I A]) w):=by
 have HM:=λW=>g (Tryz.bits_Mul64 0 10 aj aj W)
 have HB:=g (aA (aA (V w.1.size w) (.cells #[.int .u64 0,I A,I A] 250)) (.cells #[.int .u64 0,I A,I A] 250));have hA:=λW=>aeg i hi W
 have HX:=g ((Bx.new w #[.int .u64 0,I A,I A] 250).alloc (.cells #[.int .u64 0,I A,I A] 250));rcases(by omega:i=0\/i=1\/i=2\/i=3\/i=4\/i=5\/i=6\/i=7\/i=8\/i=9) with rfl|rfl|rfl|rfl|rfl|rfl|rfl|rfl|rfl|rfl
 all_goals
  simp only[Int.cast_ofNat_Int] at hA;go_enter func187,ntmps187;go_wp2_with fail;refine(HM _).q.mono ?_;rintro e w1 ⟨rfl,rfl⟩;go_wp2_with fail;refine bodyPost_ret (v:=_) ?_ rfl ⟨rfl,aA (aA (V _ _) _) _⟩;simp[results,results187,go_sem]
theorem WC (i:K)(hi:i<=9)(w:Z):Calls C 188 #[.agg #[.int .u64 i,I A,I A]] w (uF (S O i) (I E) w):=by
 rcases(by omega:i=0\/i=1\/i=2\/i=3\/i=4\/i=5\/i=6\/i=7\/i=8\/i=9) with rfl|rfl|rfl|rfl|rfl|rfl|rfl|rfl|rfl|rfl
 all_goals
  go_enter func188,ntmps188;go_wp2_with fail
  go_ret2
  exact⟨rfl,aA (V _ _) _⟩
theorem ZK (b:UInt8)(h:jf b=E)(h45:b≠45):mF [b]=[b]:=by
 unfold mF;rw[au (by simp[h45])];simp[h]
theorem aeb (b:UInt8)(h48:48<=b.toNat)(h57:b.toNat<=57)(w:Z):Calls C 170 #[.string ⟨#[b]⟩] w (uF (S O ((b.toNat - 48:K):F)) (S O 0) w):=by
 obtain⟨i,hi⟩:∃i,i=b.toNat - 48:=⟨_,rfl⟩;rw[<-hi];have hb:48+i=b.toNat:=by omega
 have HH:=λW=>g (Sk [b] ak W)
 rw[ZK b (by rw[Ja];simp[h48,h57]) (λe=>by rw[e] at h48;exact absurd h48 aj)] at HH;have HW:=λW=>g (aeh i ah W)
 have HN:=λW=>g (WC i ah W)
 rw[hb] at HW;have hi0:∀W,(Instr.index 9 (.string ⟨#[b]⟩) (S O 0)).run C W= .ok (.int .u8 (b.toNat:F)) W:=λW=>jM G [b] 0 b rfl W
 have e45:((b.toNat:F)==45)=A:=aU.2 ah;have hempty:(([b]:Bs)==([]:Bs))=A:=rfl;have HD:=g (qm b [] ah);clear h48 h57 hi hb
 cases h0:((b.toNat:F)==48)
 all_goals
  go_enter func170,ntmps170;go_wp2_with fail;refine(HH _).q.mono ?_;rintro e w1 ⟨rfl,hb1⟩;have HB1:=g ((aA hb1 (.cells #[.int .u64 0,I A,I A] 250)).trans (jV _ ⟨#[b]⟩|>.mono (by have:=hb1.size;simp;omega)));have eX:=g (((Bx.new w1 #[.int .u64 0,I A,I A] 250)).keep (jV _ ⟨#[b]⟩));have HZ:Hid (w.1.size<=w1.1.size):=g hb1.size;clear hb1;go_wp2_with fail
  go_loopw [] (λwr=>∃(W:Z)(k v:K),W=wr/\((k=0/\v=0)\/(k=1/\v=i))/\wr.1[w1.1.size+1]?=M (.stringIter ⟨#[b]⟩ k)/\Bx wr w1.1.size #[.int .u64 v,I A,I A]/\Q w.1.size w wr) (λwr=>2 - wr.iterPos (w1.1.size+1))
  case atStart=>exact⟨_,0,0,rfl,.inl ⟨rfl,rfl⟩,(by have:=World.iter_heap (w1.alloc (.cells #[.int .u64 0,I A,I A] 250)) ⟨#[b]⟩ 0;rwa[World.size_alloc] at this),eX.q,HB1.q⟩
  case round=>
   obtain⟨W,k,v,rfl,hkv,hit,hbx,hbw⟩:=hrel;have HIT:=g hit;have fQ:=g hbx;have cZ:=g hbw;have hcx:=hbx.1;have hfx:=hbx.2.1;clear hbx hbw;rcases hkv with⟨rfl,rfl⟩|⟨rfl,rfl⟩
   .have hnx:∀ty,(Instr.next (.pointer (M ⟨w1.1.size+1,0,none⟩)) E ty).run C W= .ok (.tuple #[I E,S O 0,.int .i32 (b.toNat:F)]) (W.iterAt (w1.1.size+1) ⟨#[b]⟩ 1):=λty=>by
     have h:=Lib.run_next_any_at (P:=C) W (w1.1.size+1) ⟨#[b]⟩ 0 ty hit (by simp[ByteArray.size]);rw[show L ⟨#[b]⟩ 0=(b.toNat,1) from HD.q] at h;exact h
    have HI2:=g (Lib.iterAt_heap W (w1.1.size+1) ⟨#[b]⟩ 0 1 hit);have HB2:=g (Lib.below_iterAt cZ.q (k:=w1.1.size+1) (by have:=HZ.q;omega) ⟨#[b]⟩ 1);clear hit;have hbv:=fQ.q.of_eq (Y:=W.iterAt (w1.1.size+1) ⟨#[b]⟩ 1) (by rw[Lib.iterAt_size];exact aB _) (Lib.iterAt_other W _ _ _ _ ah);have hcv:=hbv.1;have uI:=g hbv;clear hbv hcx hfx;go_wp2_with fail;refine(HW _).q.mono ?_;rintro e w4 ⟨rfl,hb4⟩;have ig:=g (HB2.q.bZ hb4);have hb5:=uI.q.keep hb4;have kz:=g hb5;have BV:=hb5.1;have hf5:=hb5.2.1;have HI4:=g ((hb4.block (w1.1.size+1) (dh.1 HI2.q).1).trans HI2.q);clear hb4 hb5 hcv;go_wp2_with fail;have hz:Same (λj=>j≠w1.1.size) w4 (((w4.setCell ⟨w1.1.size,0,none⟩ (.int .u64 i)).setCell ⟨w1.1.size,1,none⟩ (I A)).setCell ⟨w1.1.size,2,none⟩ (I A)):=(((Same.refl' w4).setTail (λh=>h rfl)).setTail (λh=>h rfl)).setTail (λh=>h rfl);have HI5:=g ((hz.block (w1.1.size+1) ah (dh.1 HI4.q).1).trans HI4.q);have HZ5:=g (hz.below ig.q (λj hj=>by have:=HZ.q;omega) ig.q.size);clear hz;go_roundw
    case rel=>exact⟨_,1,i,rfl,.inr ⟨rfl,rfl⟩,HI5.q,((kz.q.bf 0 ak (.int .u64 i)).bf 1 ak (I A)).bf 2 ak (I A),HZ5.q⟩
    case measure=>rw[iterPos_of HI5.q,iterPos_of HIT.q];omega
   .have hnx:∀ty,(Instr.next (.pointer (M ⟨w1.1.size+1,0,none⟩)) E ty).run C W=_:=λty=>Lib.run_next_end_at W (w1.1.size+1) ⟨#[b]⟩ 1 ty hit (by simp[ByteArray.size])
    clear hit;go_wp2_with fail;refine(HN _).q.mono ?_;rintro e w3 ⟨rfl,hb3⟩;have HB3:=g (cZ.q.bZ hb3);clear hb3;go_wp2_with fail
    go_ret2
    exact⟨rfl,HB3.q⟩
theorem L9 {x t:Bs}{k:K}{a:UInt8}(h1:x[k]?=M a)(h2:t[k]?=M a):jC (x.drop k) (t.drop k)=jC (x.drop (k+1)) (t.drop (k+1))+1:=by
 obtain⟨l1,e1⟩:=bO.1 h1;obtain⟨l2,e2⟩:=bO.1 h2;rw[oD l1,oD l2,e1,e2];simp[jC]
theorem xg {x t:Bs}{k:K}(h:x.length<=k\/t.length<=k\/∃a b,x[k]?=M a/\t[k]?=M b/\a≠b):jC (x.drop k) (t.drop k)=0:=by
 rcases h with h|h|⟨a,b,h1,h2,h3⟩
 .rw[sj h];simp[jC]
 .rw[sj h];cases x.drop k <;> simp[jC]
 .obtain⟨l1,e1⟩:=bO.1 h1
  obtain⟨l2,e2⟩:=bO.1 h2;rw[oD l1,oD l2,e1,e2];simp[jC,h3]
theorem aei (x t:Bs):jC x t<=t.length:=by
 induction x generalizing t with
 |nil=>simp[jC]
 |cons a x ih=>
  cases t with
  |nil=>simp[jC]
  |cons b t=>
   simp only[jC]
   split
   .have:=ih t;simp;omega
   .simp
theorem Oh (ws:U Bs)(s t:Bs):yI (ws++[s]) t=max (yI ws t) (jC s t):=by simp[yI]
theorem WE (ws:U Bs)(t:Bs):yI ws t<=t.length:=by
 have:∀(ws:U Bs)(m:K),m<=t.length->ws.foldl (λm s=>max m (jC s t)) m<=t.length:=by
  intro ws
  induction ws with
  |nil=>intro m hm;exact hm
  |cons s ws ih=>intro m hm;exact ih (max m (jC s t)) (Nat.max_le.2 ⟨hm,aei s t⟩)
 exact this ws 0 (aZ _)
theorem Lg {R p:K}{s l:Bs}{c:bE}{n:aH}(w:Z)(h:eP w R s p l c n)(a:Option Addr)(nn cc:K)(ws:U Bs)(hr:Row w 1 encStr a nn cc ws)(hnn:nn<=100)(hw:∀x∈ws,x.length<=100)(vF:∀x∈ws,(128:UInt8)∉x):
  Calls C 158 #[.pointer (M ⟨R,0,none⟩),.slice a nn cc] w (ou R s c n w (λi:K=> S O i) (eY ws l)):=by
 have HS:=g (Us w h);obtain⟨X,hX⟩:∃X,X=eY ws l:=⟨_,rfl⟩;rw[<-hX];obtain⟨T,hT⟩:∃T,T=fq l:=⟨_,rfl⟩;rw[<-hT] at HS;obtain⟨Wh,hWh⟩:∃Wh,Wh=nR l:=⟨_,rfl⟩;have hTl:T.length<=l.length:=by rw[hT];have:=qi o8 l;unfold fq;omega
 have hcs:(l.drop T.length=[]/\Wh=T)\/(∃b t,l.drop T.length=b::t/\b.toNat<128/\Wh=T)\/(∃b t,l.drop T.length=b::t/\128<=b.toNat/\Wh=T++[128]):=by
  unfold nR at hWh;rw[<-hT] at hWh
  cases hd:l.drop T.length with
  |nil=>rw[hd] at hWh;exact .inl ⟨rfl,hWh⟩
  |cons b t=>
   rw[hd] at hWh;simp only[tV] at hWh;by_cases h1:(128:UInt8)<=b
   .rw[av h1] at hWh;exact .inr (.inr ⟨b,t,rfl,h1,hWh⟩)
   .rw[au h1] at hWh;exact .inr (.inl ⟨b,t,rfl,Nat.lt_of_not_le h1,hWh⟩)
 have hlen:=h.len;have hlim:=h.lim;have HX:=g hX;have HT:=g hT;have HWH:=g hWh;have HH:=g h;have HR:=g hr;have HW:=g hw;have HWA:=g vF;have hz:=gQ s;have hzT:=gQ T;clear hX hT hWh h hr hw vF;rcases hcs with⟨hd,Oi⟩|⟨b,t,hd,hb,Oi⟩|⟨b,t,hd,hb,Oi⟩
 case' inr.inr=>
  have hend:p+T.length<s.length:=by
   have:=bU List.length hd;simp at this;omega
  have hd1:decide ((p:F)+(T.length:F)<(s.length:F))=E:=bN ah;have hsb:s[p+T.length]?=M b:=by
   have:=bU (λl=>l[0]?) hd;rw[<-HH.q.d] at this
   simpa using this
  have hix:=λW=>jM G s (p+T.length) b hsb W
  rw[BX] at hix;have hb1':decide ((128:F)<=(b.toNat:F))=E:=bN ah;have arj:((⟨T.toArray⟩:ByteArray)++⟨#[128]⟩)=⟨Wh.toArray⟩:=by rw[Oi];exact Ut T [128]
  have HWT:=g Oi;clear hd hsb Oi;go_enter func158,ntmps158;go_wp2_with fail;refine HS.q.mono ?_;rintro e w1 ⟨rfl,hb1⟩;have H1:=g (HH.q.below hb1);have HB1:=g hb1;have c0:=H1.q.c0;have c1:=H1.q.c1;clear hb1
  go_wp2_with (go_quiet (fail))
  clear hd1 c0 c1
  go_loopw [8,47] (λf i wr=>∃k m:K,k<=nn/\i= S O k/\f= S O m/\m=yI (ws.take k) T/\(∀x∈ws.take k,x≠Wh)/\Q w.1.size w wr) (λ_ i _=>nn - (H i).toNat)
  case atStart=>exact⟨0,0,aZ _,rfl,rfl,rfl,by simp,gu HB1.q _⟩
  case round=>
   obtain⟨k,m,hk,rfl,rfl,hm,hne,hbw⟩:=hrel;have hmt:m<=T.length:=by rw[hm];exact WE _ _
   have hml:m<=1000000:=by omega
   by_cases hlt:k<nn
   .obtain⟨x,b',o,hx,rfl,hc⟩:=(HR.q.below hbw rfl).at_ hlt
    have hc0:=hc 0 _ rfl;simp only[gT,dM] at hc0;have hxw:x∈ws:=dP hx;have hxl:=HW.q x hxw;have cZ:=g hbw;have HM:=g hm;have kP:=g hne;have xH:=g hx;have Oj:=g hxw;have HC:=g (HH.q.below hbw);have c1:=HC.q.c1;have z1:=f1 HC.q 1;clear hc hbw hm hne hx hxw
    cases hxe:x==Wh
    .clear c1 z1
     have END:Hid (∀(W':Z)(q:K),Q w.1.size w W'->jC x T=q->∃k' m':K,k'<=nn/\Value.int O ((k:F)+1)= S O k'/\Value.int O (max (m:F) (q:F))= S O m'/\m'=yI (ws.take k') T/\(∀y∈ws.take k',y≠Wh)/\Q w.1.size w W'):=g (λW' q hb hq=>
      ⟨k+1,max m q,by omega,by rw[BX];rfl,bU (Value.int O) ah,by rw[jd,xH.q,Option.toList_some,Oh,hq,<-HM.q],λy hy=>by
       rw[jd,xH.q] at hy;rcases dm.1 hy with hy|hy
       .exact kP.q y hy
       .obtain rfl:y=x:=by simpa using hy
        exact λe=>by rw[e] at hxe;simp at hxe,hb⟩)
     go_wp2_with fail
     go_loopw [11] (λj wx=>∃W,W=wx/\∃q:K,j= S O q/\q<=T.length/\q<=x.length/\jC (x.drop q) (T.drop q)+q=jC x T/\Q w.1.size w W) (λj _=>T.length - (H j).toNat)
     case atStart=>exact⟨_,rfl,0,rfl,aZ _,aZ _,by simp,cZ.q⟩
     case round=>
      obtain⟨W,rfl,q,rfl,hqT,hqx,hcm,hbx⟩:=hrel;have fQ:=g hbx;have HCM:=g hcm;clear hbx hcm;by_cases h1:q<x.length
      .by_cases h2:q<T.length
       .have hd3:decide ((q:F)<min (x.length:F) (T.length:F))=E:=bN ah
        obtain⟨a1,ha1⟩:∃a1,x[q]?=M a1:=⟨_,fK h1⟩;obtain⟨a2,ha2⟩:∃a2,T[q]?=M a2:=⟨_,fK h2⟩;have hi1:=λW=>jM G x q a1 ha1 W
        have hi2:=λW=>jM G T q a2 ha2 W
        have HA1:=g ha1;have HA2:=g ha2;have HL:=g (⟨h1,h2⟩:_/\_);clear ha1 ha2 h1 h2;by_cases he:a1=a2
        .have hb:((a1.toNat:F)==(a2.toNat:F))=E:=by simp[he]
         have HE:=g he;clear he
         go_wp2_with (go_quiet (fail))
         go_roundw
         case rel=>exact⟨_,rfl,q+1,by go_num,HL.q.2,HL.q.1,by have:=L9 HA1.q (HE.q▸HA2.q);have:=HCM.q;omega,gu fQ.q _⟩
         case measure=>have:=HL.q.2;simp[H];omega
        .have hb:((a1.toNat:F)==(a2.toNat:F))=A:=aU.2 (λe=>he (jm.1 ah))
         have HE:=g he;clear he
         go_wp2_with (go_quiet (fail))
         go_roundw
         case rel=>exact END.q _ q (gu fQ.q _) (by have:=xg (.inr (.inr ⟨a1,a2,HA1.q,HA2.q,HE.q⟩));have:=HCM.q;omega)
         case measure=>simp[H];omega
       .have hd3:decide ((q:F)<min (x.length:F) (T.length:F))=A:=bq ah
        have HL:=g h2;clear h2
        go_wp2_with (go_quiet (fail))
        go_roundw
        case rel=>exact END.q _ q (gu fQ.q _) (by have:=xg (x:=x) (t:=T) (k:=q) (.inr (.inl (by have:=HL.q;omega)));have:=HCM.q;omega)
        case measure=>simp[H];omega
      .have hd3:decide ((q:F)<min (x.length:F) (T.length:F))=A:=bq ah
       have HL:=g h1;clear h1
       go_wp2_with (go_quiet (fail))
       go_roundw
       case rel=>exact END.q _ q (gu fQ.q _) (by have:=xg (x:=x) (t:=T) (k:=q) (.inl (by have:=HL.q;omega));have:=HCM.q;omega)
       case measure=>simp[H];omega
    .exfalso
     have hxW:x=Wh:=by simpa using hxe
     have h128:=HWA.q x Oj.q;rw[hxW,HWT.q] at h128;exact h128 ak
   .obtain rfl:k=nn:=by omega
    have hF:∀W,Calls C 138 #[S O ((p:F)+(m:F)),S O 220] W (λe w'=>e= .panicked (o9 (p+m) 220)/\w'=W):=λW=>by
     have:=mR (p+m) 220 W
     rwa[BX] at this
    have HF:=λW=>g (hF W)
    have htk:ws.take k=ws:=iH (by rw[HR.q.len];exact aB _);rw[htk] at hm hne;have Sq:Hid (eY ws l= .error (l.drop m,220)):=g (by
     unfold eY;rw[<-HT.q,<-HWH.q,DZ.2 (λy hy=>by simpa using hne y hy),<-hm])
    have cZ:=g hbw;have HC:=g (HH.q.below hbw);have c1:=HC.q.c1;clear hm hne hbw hF htk;go_wp2_with fail;refine(HF _).q.mono ?_;rintro e w4 ⟨rfl,rfl⟩;refine⟨rfl,?_⟩;show ou R s c n w _ _ _ _;rw[HX.q,Sq.q];refine⟨?_,Same.of_below cZ.q (λ_ _ h=>h)⟩;rw[show s.length - (l.drop m).length=p+m by rw[gG];omega]
 case' inl=>
  have hend:p+T.length=s.length:=by
   have:=bU List.length hd;simp at this;omega
  subst Oi;have hd1:decide ((p:F)+(Wh.length:F)<(s.length:F))=A:=bq ah;clear hd
 case' inr.inl=>
  have hend:p+T.length<s.length:=by
   have:=bU List.length hd;simp at this;omega
  subst Oi;have hd1:decide ((p:F)+(Wh.length:F)<(s.length:F))=E:=bN ah;have hsb:s[p+Wh.length]?=M b:=by
   have:=bU (λl=>l[0]?) hd;rw[<-HH.q.d] at this
   simpa using this
  have hix:=λW=>jM G s (p+Wh.length) b hsb W
  rw[BX] at hix;have hb1':decide ((128:F)<=(b.toNat:F))=A:=bq ah;clear hd hsb
 all_goals
  go_enter func158,ntmps158;go_wp2_with fail;refine HS.q.mono ?_;rintro e w1 ⟨rfl,hb1⟩;have H1:=g (HH.q.below hb1);have HB1:=g hb1;have c0:=H1.q.c0;have c1:=H1.q.c1;clear hb1
  go_wp2_with (go_quiet (fail))
  clear hd1 c0 c1
  go_loopw [8,47] (λf i wr=>∃k m:K,k<=nn/\i= S O k/\f= S O m/\m=yI (ws.take k) Wh/\(∀x∈ws.take k,x≠Wh)/\Q w.1.size w wr) (λ_ i _=>nn - (H i).toNat)
  case atStart=>exact⟨0,0,aZ _,rfl,rfl,rfl,by simp,gu HB1.q _⟩
  case round=>
   obtain⟨k,m,hk,rfl,rfl,hm,hne,hbw⟩:=hrel;have hmt:m<=Wh.length:=by rw[hm];exact WE _ _
   have hml:m<=1000000:=by omega
   by_cases hlt:k<nn
   .obtain⟨x,b',o,hx,rfl,hc⟩:=(HR.q.below hbw rfl).at_ hlt
    have hc0:=hc 0 _ rfl;simp only[gT,dM] at hc0;have hxw:x∈ws:=dP hx;have hxl:=HW.q x hxw;have cZ:=g hbw;have HM:=g hm;have kP:=g hne;have xH:=g hx;have Oj:=g hxw;have HC:=g (HH.q.below hbw);have c1:=HC.q.c1;have z1:=f1 HC.q 1;clear hc hbw hm hne hx hxw
    cases hxe:x==Wh
    .clear c1 z1
     have END:Hid (∀(W':Z)(q:K),Q w.1.size w W'->jC x Wh=q->∃k' m':K,k'<=nn/\Value.int O ((k:F)+1)= S O k'/\Value.int O (max (m:F) (q:F))= S O m'/\m'=yI (ws.take k') Wh/\(∀y∈ws.take k',y≠Wh)/\Q w.1.size w W'):=g (λW' q hb hq=>
      ⟨k+1,max m q,by omega,by rw[BX];rfl,bU (Value.int O) ah,by rw[jd,xH.q,Option.toList_some,Oh,hq,<-HM.q],λy hy=>by
       rw[jd,xH.q] at hy;rcases dm.1 hy with hy|hy
       .exact kP.q y hy
       .obtain rfl:y=x:=by simpa using hy
        exact λe=>by rw[e] at hxe;simp at hxe,hb⟩)
     go_wp2_with fail
     go_loopw [11] (λj wx=>∃W,W=wx/\∃q:K,j= S O q/\q<=Wh.length/\q<=x.length/\jC (x.drop q) (Wh.drop q)+q=jC x Wh/\Q w.1.size w W) (λj _=>Wh.length - (H j).toNat)
     case atStart=>exact⟨_,rfl,0,rfl,aZ _,aZ _,by simp,cZ.q⟩
     case round=>
      obtain⟨W,rfl,q,rfl,hqT,hqx,hcm,hbx⟩:=hrel;have fQ:=g hbx;have HCM:=g hcm;clear hbx hcm;by_cases h1:q<x.length
      .by_cases h2:q<Wh.length
       .have hd3:decide ((q:F)<min (x.length:F) (Wh.length:F))=E:=bN ah
        obtain⟨a1,ha1⟩:∃a1,x[q]?=M a1:=⟨_,fK h1⟩;obtain⟨a2,ha2⟩:∃a2,Wh[q]?=M a2:=⟨_,fK h2⟩;have hi1:=λW=>jM G x q a1 ha1 W
        have hi2:=λW=>jM G Wh q a2 ha2 W
        have HA1:=g ha1;have HA2:=g ha2;have HL:=g (⟨h1,h2⟩:_/\_);clear ha1 ha2 h1 h2;by_cases he:a1=a2
        .have hb:((a1.toNat:F)==(a2.toNat:F))=E:=by simp[he]
         have HE:=g he;clear he
         go_wp2_with (go_quiet (fail))
         go_roundw
         case rel=>exact⟨_,rfl,q+1,by go_num,HL.q.2,HL.q.1,by have:=L9 HA1.q (HE.q▸HA2.q);have:=HCM.q;omega,gu fQ.q _⟩
         case measure=>have:=HL.q.2;simp[H];omega
        .have hb:((a1.toNat:F)==(a2.toNat:F))=A:=aU.2 (λe=>he (jm.1 ah))
         have HE:=g he;clear he
         go_wp2_with (go_quiet (fail))
         go_roundw
         case rel=>exact END.q _ q (gu fQ.q _) (by have:=xg (.inr (.inr ⟨a1,a2,HA1.q,HA2.q,HE.q⟩));have:=HCM.q;omega)
         case measure=>simp[H];omega
       .have hd3:decide ((q:F)<min (x.length:F) (Wh.length:F))=A:=bq ah
        have HL:=g h2;clear h2
        go_wp2_with (go_quiet (fail))
        go_roundw
        case rel=>exact END.q _ q (gu fQ.q _) (by have:=xg (x:=x) (t:=Wh) (k:=q) (.inr (.inl (by have:=HL.q;omega)));have:=HCM.q;omega)
        case measure=>simp[H];omega
      .have hd3:decide ((q:F)<min (x.length:F) (Wh.length:F))=A:=bq ah
       have HL:=g h1;clear h1
       go_wp2_with (go_quiet (fail))
       go_roundw
       case rel=>exact END.q _ q (gu fQ.q _) (by have:=xg (x:=x) (t:=Wh) (k:=q) (.inl (by have:=HL.q;omega));have:=HCM.q;omega)
       case measure=>simp[H];omega
    .obtain⟨q,hq⟩:∃q:K,q=p+Wh.length:=⟨_,rfl⟩
     have hxW:x=Wh:=by simpa using hxe
     have hqi:(p:F)+(x.length:F)=(q:F):=by rw[hxW];omega
     have Ii:q<=1000000:=by omega
     have ht:=HC.q.to Wh.length rfl hTl q hq;have HT2:=g ht.1;have lM:=g ((Mv.of_below (R:=R) (c:=c) cZ.q).trans ht.2);have Sq:Hid (eY ws l= .ok (k,l.drop Wh.length)):=g (by
      unfold eY;rw[<-HT.q,<-HWH.q,findIdx?_take (λs=>s==Wh) ws k (DZ.2 (λy hy=>by simpa using kP.q y hy)) x xH.q hxe])
     clear ht hq hxW;go_wp2_with fail;go_ret;show ou R s c n w _ _ _ _;rw[HX.q,Sq.q];exact⟨rfl,q,HT2.q,lM.q⟩
   .obtain rfl:k=nn:=by omega
    have hF:∀W,Calls C 138 #[S O ((p:F)+(m:F)),S O 220] W (λe w'=>e= .panicked (o9 (p+m) 220)/\w'=W):=λW=>by
     have:=mR (p+m) 220 W
     rwa[BX] at this
    have HF:=λW=>g (hF W)
    have htk:ws.take k=ws:=iH (by rw[HR.q.len];exact aB _);rw[htk] at hm hne;have Sq:Hid (eY ws l= .error (l.drop m,220)):=g (by
     unfold eY;rw[<-HT.q,<-HWH.q,DZ.2 (λy hy=>by simpa using hne y hy),<-hm])
    have cZ:=g hbw;have HC:=g (HH.q.below hbw);have c1:=HC.q.c1;clear hm hne hbw hF htk;go_wp2_with fail;refine(HF _).q.mono ?_;rintro e w4 ⟨rfl,rfl⟩;refine⟨rfl,?_⟩;show ou R s c n w _ _ _ _;rw[HX.q,Sq.q];refine⟨?_,Same.of_below cZ.q (λ_ _ h=>h)⟩;rw[show s.length - (l.drop m).length=p+m by rw[gG];omega]
theorem WG (xs:U (F × F)):(∀x∈xs,xI x)->
  ((jg xs).2=E/\∀s:K,∃m:K,(jg xs).1 s=m/\cu xs s=up m)\/((jg xs).2=A/\∃s:K,s<4/\∀n,¬cu xs s<+:up n):=by
 refine yJ (P:=λxs=>(∀x∈xs,xI x)->((jg xs).2=E/\∀s:K,∃m:K,(jg xs).1 s=m/\cu xs s=up m)\/((jg xs).2=A/\∃s:K,s<4/\∀n,¬cu xs s<+:up n)) ?_ ?_ xs
 .intro _
  exact .inl ⟨rfl,λs=>⟨0,rfl,rfl⟩⟩
 .intro xs x ih hx
  have hx0:=hx x ak;rcases ih (λy hy=>hx y (iJ _ hy)) with⟨h2,hs⟩|⟨h2,s,hs4,hn⟩
  .obtain⟨a,n⟩:=x
   obtain⟨⟨ha0,ha4⟩,hn0,_⟩:=hx0;simp only at ha0 ha4 hn0;obtain⟨s,rfl⟩:∃s:K,a=s:=⟨a.toNat,by omega⟩;obtain⟨m,hm,hf⟩:=hs s;by_cases hle:n<=m
   .left
    have hst:jg (xs++[((s:F),n)])=(λi=>if i=s then(if n+1>(jg xs).1 i then n+1 else(jg xs).1 i) else(jg xs).1 i,E):=by
     rw[BZ,<-Ol (b:=(jg xs).2) h2 (by rw[hm];exact hle)]
    rw[hst];refine⟨rfl,λt=>?_⟩;by_cases hts:t=s
    .subst hts
     rw[lQ,av rfl,hf];simp only[av];rw[hm];by_cases hlt:n<m
     .refine⟨m,by rw[au ah],?_⟩
      unfold ny;rw[av ((A9 hn0).2 hlt)]
     .have hnm:n=m:=by omega
      refine⟨m+1,by rw[av ah,hnm];rfl,?_⟩;unfold ny;rw[au (λh=>hlt ((A9 hn0).1 h)),Sr,hnm]
    .obtain⟨k,hk,Om⟩:=hs t
     refine⟨k,by simp only[au hts];exact hk,?_⟩;rw[lQ,au (by simp;omega)];exact Om
   .right
    refine⟨by rw[BZ];exact Sv (by show n>(jg xs).1 (s:F).toNat;rw[jB,hm];omega),s,by omega,λk hp=>?_⟩;rw[lQ,av rfl,hf] at hp;unfold ny at hp;rw[au (λh=>by have:=(A9 hn0).1 h;omega)] at hp;have hg:(up m++[n])[m]?=M n:=by rw[xJ (by rw[pu];exact aB _),pu];simp
    obtain⟨t,ht⟩:=hp;have hl:=bU List.length ht;rw[bL,bL,pu,pu] at hl;simp at hl;have hk:(up k)[m]?=M n:=by rw[<-ht,y8 (by rw[bL,pu];simp)];exact hg
    rw[WH ah] at hk;injection hk with hk;omega
  .right
   refine⟨by rw[BZ];unfold D5;rw[au (by rw[h2];simp)],s,hs4,λn hp=>hn n ((AA xs x s).trans hp)⟩
theorem aej {xs:U (F × F)}(hx:∀x∈xs,xI x)(N:K->K):
  ((jg xs).2 && (List.range 4).all (λi=>decide ((jg xs).1 i=(N i:F))))=(List.range 4).all (λi:K=>decide (cu xs i=up (N i))):=by
 rcases WG xs hx with⟨h2,hs⟩|⟨h2,s,hs4,hn⟩
 .rw[h2,Ay]
  congr 1
  funext i
  obtain⟨m,hm,hf⟩:=hs i;rw[hm,hf];refine decide_eq_decide.2 ⟨λh=>by rw[Int.ofNat_inj.1 h],λh=>by rw[afK h]⟩
 .rw[h2,Bool.false_and]
  symm
  rw[<-Bool.not_eq_true,fA];intro h;have:=xK (h s (by simpa using hs4));exact hn (N s) (by rw[this];exact gU _)
theorem Rs {h:HC}{nl:K->U Bs}{es:U EvC}{ds:U aM}{ms:U aN}{qs:U Wa}{scan:EvC->U Sn}{dn:aM->U F}{mn:aN->U F}(hs:jq h nl es ds ms qs scan dn mn=E)
  (hlen:∀i,i<4->(nl i).length=(h.nm i).n):nS h nl es ds ms qs scan dn mn=(List.range 4).all (λi:K=>decide (cu (lu es ds ms qs scan dn mn) i=up (h.nm i).n)):=by
 unfold nS;rw[hs,Ay,aej (Ma hs hlen) (λi=>(h.nm i).n)]
attribute [local go_sem] Oper.semAt_some
section
variable {J Jx:U aH->Z->Prop}{D:K->Prop}{ls:U aH}{l B:K}{w0:Z}{Ok:Z->Prop}
theorem afL (hJ:∀s X Y,J s X->Same (λ_=>True) X Y->J s Y)
  (hY:∀pre x args X,J pre X->pre++[x]<+:ls->y9 B x args X->B<=X.1.size->∀m,YieldAt Fence.wide m C l args X λe Y=>
   (e= .returned (I E)/\J (pre++[x]) Y/\aQ D X Y)\/(e= .returned (I A)/\Jx (pre++[x]) Y/\aQ D X Y))
  (zC:∀X Y,Ok X->aQ D X Y->Ok Y) (uJ:∀X Y,Ok X->Q X.1.size X Y->Ok Y) (uK:∀X,Ok X->Reads w0 X/\B<=X.1.size)
  (a:Option Addr) (n c:K) (xs:U EvC) (says:EvC->aH) (sf:K) (cap:Array Value) (eg:∀args w,(callFunc sf args).run C w= .ok (.enter sf args) w) (hr:Row w0 9 eB a n c xs)
  (hs:∀x∈xs,∀X,Ok X->Calls C sf (#[fZ x]++cap) X (wC (says x) X))
  (pre:U aH) (hpre:pre++xs.map says<+:ls) (X:Z) (hX:J pre X) (Ba:Ok X) (m:K):
  CallsIn Fence.wide m C 59 #[.slice a n c,.func (.func sf) #[] cap,.func (.yield l) #[] #[]] X λe Y=>
   (e= .returned (I E)/\J (pre++xs.map says) Y/\Ok Y)\/(e= .returned (I A)/\∃p,p<+:ls/\Jx p Y):=by
 refine callsIn_of_wp func59 rfl trivial ?_ rfl;simp only[ntmps59,p8,dO,iy,Nat.reduceAdd,Nat.reduceSub,rX,rY,oz,oC,fJ,fu];have hle:=hr.le;have HR:=g hr;have HS:=g hs;have HP:=g hpre;have HJ:=g hJ;have HY:=g hY;have HO:=g zC;have l8:=g uJ;have zD:=g uK;have HX:=g hX;have Oo:=g Ba;clear hr hs hpre hJ hY zC uJ uK hX Ba
 gi_wp2
 gi_loopw [11] (λi wr=>∃k:K,k<=n/\i= S O k/\J (pre++(xs.take k).map says) wr/\Ok wr) (λi _=>n - (H i).toNat)
 case atStart=>exact⟨0,aZ _,rfl,by simpa using HX.q,Oo.q⟩
 case round=>
  obtain⟨k,hk,rfl,hj,hok⟩:=hrel;by_cases hlt:k<n
  .obtain⟨x,b,o,hx,rfl,hc⟩:=(HR.q.reads (zD.q _ hok).1).at_ hlt
   have h0:=hc 0 _ rfl;have h1:=hc 1 _ rfl;have h2:=hc 2 _ rfl;have h3:=hc 3 _ rfl;have h4:=hc 4 _ rfl;have h5:=hc 5 _ rfl;have h6:=hc 6 _ rfl;have h7:=hc 7 _ rfl;have h8:=hc 8 _ rfl;simp only[dM] at h0;have hkl:k<xs.length:=by rw[HR.q.len];exact hlt
   have htk:xs.take (k+1)=xs.take k++[x]:=by
    rw[jd,hx];rfl
   have hstep:Hid ((pre++(xs.take k).map says)++[says x]=pre++(xs.take (k+1)).map says):=by rw[htk];exact g ak
   have hpx:Hid ((pre++(xs.take k).map says)++[says x]<+:ls):=by
    rw[hstep.q];exact g (List.IsPrefix.trans (by
     refine⟨(xs.drop (k+1)).map says,?_⟩;rw[dD,<-eU,tT]) HP.q)
   have qx:Q wr.1.size wr (wr.alloc (.cells (aS x) 50)):=(V _ _).alloc (aB _) _;have wM:=l8.q _ _ hok qx;have FC:=HJ.q _ _ _ hj (.of_below qx (λi _ hi=>hi));have HC:=g (HS.q x (dP hx) _ wM);have Bb:=g wM;have Oq:=g FC;have eX:=g hx;clear hc hx hok hj wM FC qx htk
   gi_wp2
   refine⟨trivial,λh=>(by cases h),?_⟩;refine(callsIn_wide.2 HC.q).mono ?_;rintro e w1 ⟨lc,rfl,hln,hb1⟩;have hok1:=l8.q _ _ Bb.q hb1;have hj1:=HJ.q _ _ _ Oq.q (.of_below hb1 (λi _ hi=>hi));obtain⟨fn,tmps,assign,body,hy,hR⟩:=HY.q _ (says x) #[dY lc] w1 hj1 hpx.q ⟨lc,rfl,hln.mono (zD.q _ Bb.q).2⟩ (zD.q _ hok1).2 (m - 1);have Bc:=g hok1;clear hok1 hj1 hln hb1
   gi_wp2
   refine⟨λh=>(by cases h),?_⟩;refine hR.mono ?_;rintro e Y (⟨rfl,hJ',hk'⟩|⟨rfl,qX,_⟩)
   .clear hR hy
    have HJ2:=g hJ';have su:=g (HO.q _ _ Bc.q hk');clear hJ' hk'
    gi_wp2
    go_roundw
    case rel=>exact⟨k+1,by omega,by go_num,by rw[<-hstep.q];exact HJ2.q,su.q⟩
    case measure=>simp[H];omega
   .clear hR hy
    have HJ2:=g qX;clear qX
    gi_wp2
    go_ret;exact .inr ⟨rfl,_,hpx.q,HJ2.q⟩
  .have hkn:k=n:=by omega
   have htk:xs.take k=xs:=iH (by rw[HR.q.len];omega);rw[htk] at hj;have HJ2:=g hj;have su:=g hok;clear hj hok htk
   gi_wp2
   go_ret;exact .inl ⟨rfl,HJ2.q,su.q⟩
theorem afM (hJ:∀s X Y,J s X->Same (λ_=>True) X Y->J s Y)
  (hY:∀pre x args X,J pre X->pre++[x]<+:ls->y9 B x args X->B<=X.1.size->∀m,YieldAt Fence.wide m C l args X λe Y=>
   (e= .returned (I E)/\J (pre++[x]) Y/\aQ D X Y)\/(e= .returned (I A)/\Jx (pre++[x]) Y/\aQ D X Y))
  (zC:∀X Y,Ok X->aQ D X Y->Ok Y) (uJ:∀X Y,Ok X->Q X.1.size X Y->Ok Y) (uK:∀X,Ok X->Reads w0 X/\B<=X.1.size)
  (a:Option Addr) (n c:K) (xs:U aM) (says:aM->aH) (sf:K) (cap:Array Value) (eg:∀args w,(callFunc sf args).run C w= .ok (.enter sf args) w) (hr:Row w0 2 fB a n c xs)
  (hs:∀x∈xs,∀X,Ok X->Calls C sf (#[za x]++cap) X (wC (says x) X))
  (pre:U aH) (hpre:pre++xs.map says<+:ls) (X:Z) (hX:J pre X) (Ba:Ok X) (m:K):
  CallsIn Fence.wide m C 60 #[.slice a n c,.func (.func sf) #[] cap,.func (.yield l) #[] #[]] X λe Y=>
   (e= .returned (I E)/\J (pre++xs.map says) Y/\Ok Y)\/(e= .returned (I A)/\∃p,p<+:ls/\Jx p Y):=by
 refine callsIn_of_wp func60 rfl trivial ?_ rfl;simp only[ntmps60,p8,dO,iy,Nat.reduceAdd,Nat.reduceSub,rX,rY,oz,oC,fJ,fu];have hle:=hr.le;have HR:=g hr;have HS:=g hs;have HP:=g hpre;have HJ:=g hJ;have HY:=g hY;have HO:=g zC;have l8:=g uJ;have zD:=g uK;have HX:=g hX;have Oo:=g Ba;clear hr hs hpre hJ hY zC uJ uK hX Ba
 gi_wp2
 gi_loopw [11] (λi wr=>∃k:K,k<=n/\i= S O k/\J (pre++(xs.take k).map says) wr/\Ok wr) (λi _=>n - (H i).toNat)
 case atStart=>exact⟨0,aZ _,rfl,by simpa using HX.q,Oo.q⟩
 case round=>
  obtain⟨k,hk,rfl,hj,hok⟩:=hrel;by_cases hlt:k<n
  .obtain⟨x,b,o,hx,rfl,hc⟩:=(HR.q.reads (zD.q _ hok).1).at_ hlt
   have h0:=hc 0 _ rfl;have h1:=hc 1 _ rfl;simp only[dM] at h0;have hkl:k<xs.length:=by rw[HR.q.len];exact hlt
   have htk:xs.take (k+1)=xs.take k++[x]:=by
    rw[jd,hx];rfl
   have hstep:Hid ((pre++(xs.take k).map says)++[says x]=pre++(xs.take (k+1)).map says):=by rw[htk];exact g ak
   have hpx:Hid ((pre++(xs.take k).map says)++[says x]<+:ls):=by
    rw[hstep.q];exact g (List.IsPrefix.trans (by
     refine⟨(xs.drop (k+1)).map says,?_⟩;rw[dD,<-eU,tT]) HP.q)
   have qx:Q wr.1.size wr (wr.alloc (.cells (Lh x) 79)):=(V _ _).alloc (aB _) _;have wM:=l8.q _ _ hok qx;have FC:=HJ.q _ _ _ hj (.of_below qx (λi _ hi=>hi));have HC:=g (HS.q x (dP hx) _ wM);have Bb:=g wM;have Oq:=g FC;have eX:=g hx;clear hc hx hok hj wM FC qx htk
   gi_wp2
   refine⟨trivial,λh=>(by cases h),?_⟩;refine(callsIn_wide.2 HC.q).mono ?_;rintro e w1 ⟨lc,rfl,hln,hb1⟩;have hok1:=l8.q _ _ Bb.q hb1;have hj1:=HJ.q _ _ _ Oq.q (.of_below hb1 (λi _ hi=>hi));obtain⟨fn,tmps,assign,body,hy,hR⟩:=HY.q _ (says x) #[dY lc] w1 hj1 hpx.q ⟨lc,rfl,hln.mono (zD.q _ Bb.q).2⟩ (zD.q _ hok1).2 (m - 1);have Bc:=g hok1;clear hok1 hj1 hln hb1
   gi_wp2
   refine⟨λh=>(by cases h),?_⟩;refine hR.mono ?_;rintro e Y (⟨rfl,hJ',hk'⟩|⟨rfl,qX,_⟩)
   .clear hR hy
    have HJ2:=g hJ';have su:=g (HO.q _ _ Bc.q hk');clear hJ' hk'
    gi_wp2
    go_roundw
    case rel=>exact⟨k+1,by omega,by go_num,by rw[<-hstep.q];exact HJ2.q,su.q⟩
    case measure=>simp[H];omega
   .clear hR hy
    have HJ2:=g qX;clear qX
    gi_wp2
    go_ret;exact .inr ⟨rfl,_,hpx.q,HJ2.q⟩
  .have hkn:k=n:=by omega
   have htk:xs.take k=xs:=iH (by rw[HR.q.len];omega);rw[htk] at hj;have HJ2:=g hj;have su:=g hok;clear hj hok htk
   gi_wp2
   go_ret;exact .inl ⟨rfl,HJ2.q,su.q⟩
theorem afN (hJ:∀s X Y,J s X->Same (λ_=>True) X Y->J s Y)
  (hY:∀pre x args X,J pre X->pre++[x]<+:ls->y9 B x args X->B<=X.1.size->∀m,YieldAt Fence.wide m C l args X λe Y=>
   (e= .returned (I E)/\J (pre++[x]) Y/\aQ D X Y)\/(e= .returned (I A)/\Jx (pre++[x]) Y/\aQ D X Y))
  (zC:∀X Y,Ok X->aQ D X Y->Ok Y) (uJ:∀X Y,Ok X->Q X.1.size X Y->Ok Y) (uK:∀X,Ok X->Reads w0 X/\B<=X.1.size)
  (a:Option Addr) (n c:K) (xs:U aN) (says:aN->aH) (sf:K) (cap:Array Value) (eg:∀args w,(callFunc sf args).run C w= .ok (.enter sf args) w) (hr:Row w0 4 fD a n c xs)
  (hs:∀x∈xs,∀X,Ok X->Calls C sf (#[ze x]++cap) X (wC (says x) X))
  (pre:U aH) (hpre:pre++xs.map says<+:ls) (X:Z) (hX:J pre X) (Ba:Ok X) (m:K):
  CallsIn Fence.wide m C 61 #[.slice a n c,.func (.func sf) #[] cap,.func (.yield l) #[] #[]] X λe Y=>
   (e= .returned (I E)/\J (pre++xs.map says) Y/\Ok Y)\/(e= .returned (I A)/\∃p,p<+:ls/\Jx p Y):=by
 refine callsIn_of_wp func61 rfl trivial ?_ rfl;simp only[ntmps61,p8,dO,iy,Nat.reduceAdd,Nat.reduceSub,rX,rY,oz,oC,fJ,fu];have hle:=hr.le;have HR:=g hr;have HS:=g hs;have HP:=g hpre;have HJ:=g hJ;have HY:=g hY;have HO:=g zC;have l8:=g uJ;have zD:=g uK;have HX:=g hX;have Oo:=g Ba;clear hr hs hpre hJ hY zC uJ uK hX Ba
 gi_wp2
 gi_loopw [11] (λi wr=>∃k:K,k<=n/\i= S O k/\J (pre++(xs.take k).map says) wr/\Ok wr) (λi _=>n - (H i).toNat)
 case atStart=>exact⟨0,aZ _,rfl,by simpa using HX.q,Oo.q⟩
 case round=>
  obtain⟨k,hk,rfl,hj,hok⟩:=hrel;by_cases hlt:k<n
  .obtain⟨x,b,o,hx,rfl,hc⟩:=(HR.q.reads (zD.q _ hok).1).at_ hlt
   have h0:=hc 0 _ rfl;have h1:=hc 1 _ rfl;have h2:=hc 2 _ rfl;have h3:=hc 3 _ rfl;simp only[dM] at h0;have hkl:k<xs.length:=by rw[HR.q.len];exact hlt
   have htk:xs.take (k+1)=xs.take k++[x]:=by
    rw[jd,hx];rfl
   have hstep:Hid ((pre++(xs.take k).map says)++[says x]=pre++(xs.take (k+1)).map says):=by rw[htk];exact g ak
   have hpx:Hid ((pre++(xs.take k).map says)++[says x]<+:ls):=by
    rw[hstep.q];exact g (List.IsPrefix.trans (by
     refine⟨(xs.drop (k+1)).map says,?_⟩;rw[dD,<-eU,tT]) HP.q)
   have qx:Q wr.1.size wr (wr.alloc (.cells (Li x) 84)):=(V _ _).alloc (aB _) _;have wM:=l8.q _ _ hok qx;have FC:=HJ.q _ _ _ hj (.of_below qx (λi _ hi=>hi));have HC:=g (HS.q x (dP hx) _ wM);have Bb:=g wM;have Oq:=g FC;have eX:=g hx;clear hc hx hok hj wM FC qx htk
   gi_wp2
   refine⟨trivial,λh=>(by cases h),?_⟩;refine(callsIn_wide.2 HC.q).mono ?_;rintro e w1 ⟨lc,rfl,hln,hb1⟩;have hok1:=l8.q _ _ Bb.q hb1;have hj1:=HJ.q _ _ _ Oq.q (.of_below hb1 (λi _ hi=>hi));obtain⟨fn,tmps,assign,body,hy,hR⟩:=HY.q _ (says x) #[dY lc] w1 hj1 hpx.q ⟨lc,rfl,hln.mono (zD.q _ Bb.q).2⟩ (zD.q _ hok1).2 (m - 1);have Bc:=g hok1;clear hok1 hj1 hln hb1
   gi_wp2
   refine⟨λh=>(by cases h),?_⟩;refine hR.mono ?_;rintro e Y (⟨rfl,hJ',hk'⟩|⟨rfl,qX,_⟩)
   .clear hR hy
    have HJ2:=g hJ';have su:=g (HO.q _ _ Bc.q hk');clear hJ' hk'
    gi_wp2
    go_roundw
    case rel=>exact⟨k+1,by omega,by go_num,by rw[<-hstep.q];exact HJ2.q,su.q⟩
    case measure=>simp[H];omega
   .clear hR hy
    have HJ2:=g qX;clear qX
    gi_wp2
    go_ret;exact .inr ⟨rfl,_,hpx.q,HJ2.q⟩
  .have hkn:k=n:=by omega
   have htk:xs.take k=xs:=iH (by rw[HR.q.len];omega);rw[htk] at hj;have HJ2:=g hj;have su:=g hok;clear hj hok htk
   gi_wp2
   go_ret;exact .inl ⟨rfl,HJ2.q,su.q⟩
theorem afO (hJ:∀s X Y,J s X->Same (λ_=>True) X Y->J s Y)
  (hY:∀pre x args X,J pre X->pre++[x]<+:ls->y9 B x args X->B<=X.1.size->∀m,YieldAt Fence.wide m C l args X λe Y=>
   (e= .returned (I E)/\J (pre++[x]) Y/\aQ D X Y)\/(e= .returned (I A)/\Jx (pre++[x]) Y/\aQ D X Y))
  (zC:∀X Y,Ok X->aQ D X Y->Ok Y) (uJ:∀X Y,Ok X->Q X.1.size X Y->Ok Y) (uK:∀X,Ok X->Reads w0 X/\B<=X.1.size)
  (a:Option Addr) (n c:K) (xs:U Wa) (says:Wa->aH) (sf:K) (cap:Array Value) (eg:∀args w,(callFunc sf args).run C w= .ok (.enter sf args) w) (hr:Row w0 2 gH a n c xs)
  (hs:∀x∈xs,∀X,Ok X->Calls C sf (#[zf x]++cap) X (wC (says x) X))
  (pre:U aH) (hpre:pre++xs.map says<+:ls) (X:Z) (hX:J pre X) (Ba:Ok X) (m:K):
  CallsIn Fence.wide m C 62 #[.slice a n c,.func (.func sf) #[] cap,.func (.yield l) #[] #[]] X λe Y=>
   (e= .returned (I E)/\J (pre++xs.map says) Y/\Ok Y)\/(e= .returned (I A)/\∃p,p<+:ls/\Jx p Y):=by
 refine callsIn_of_wp func62 rfl trivial ?_ rfl;simp only[ntmps62,p8,dO,iy,Nat.reduceAdd,Nat.reduceSub,rX,rY,oz,oC,fJ,fu];have hle:=hr.le;have HR:=g hr;have HS:=g hs;have HP:=g hpre;have HJ:=g hJ;have HY:=g hY;have HO:=g zC;have l8:=g uJ;have zD:=g uK;have HX:=g hX;have Oo:=g Ba;clear hr hs hpre hJ hY zC uJ uK hX Ba
 gi_wp2
 gi_loopw [11] (λi wr=>∃k:K,k<=n/\i= S O k/\J (pre++(xs.take k).map says) wr/\Ok wr) (λi _=>n - (H i).toNat)
 case atStart=>exact⟨0,aZ _,rfl,by simpa using HX.q,Oo.q⟩
 case round=>
  obtain⟨k,hk,rfl,hj,hok⟩:=hrel;by_cases hlt:k<n
  .obtain⟨x,b,o,hx,rfl,hc⟩:=(HR.q.reads (zD.q _ hok).1).at_ hlt
   have h0:=hc 0 _ rfl;have h1:=hc 1 _ rfl;simp only[dM] at h0;have hkl:k<xs.length:=by rw[HR.q.len];exact hlt
   have htk:xs.take (k+1)=xs.take k++[x]:=by
    rw[jd,hx];rfl
   have hstep:Hid ((pre++(xs.take k).map says)++[says x]=pre++(xs.take (k+1)).map says):=by rw[htk];exact g ak
   have hpx:Hid ((pre++(xs.take k).map says)++[says x]<+:ls):=by
    rw[hstep.q];exact g (List.IsPrefix.trans (by
     refine⟨(xs.drop (k+1)).map says,?_⟩;rw[dD,<-eU,tT]) HP.q)
   have qx:Q wr.1.size wr (wr.alloc (.cells (Lj x) 88)):=(V _ _).alloc (aB _) _;have wM:=l8.q _ _ hok qx;have FC:=HJ.q _ _ _ hj (.of_below qx (λi _ hi=>hi));have HC:=g (HS.q x (dP hx) _ wM);have Bb:=g wM;have Oq:=g FC;have eX:=g hx;clear hc hx hok hj wM FC qx htk
   gi_wp2
   refine⟨trivial,λh=>(by cases h),?_⟩;refine(callsIn_wide.2 HC.q).mono ?_;rintro e w1 ⟨lc,rfl,hln,hb1⟩;have hok1:=l8.q _ _ Bb.q hb1;have hj1:=HJ.q _ _ _ Oq.q (.of_below hb1 (λi _ hi=>hi));obtain⟨fn,tmps,assign,body,hy,hR⟩:=HY.q _ (says x) #[dY lc] w1 hj1 hpx.q ⟨lc,rfl,hln.mono (zD.q _ Bb.q).2⟩ (zD.q _ hok1).2 (m - 1);have Bc:=g hok1;clear hok1 hj1 hln hb1
   gi_wp2
   refine⟨λh=>(by cases h),?_⟩;refine hR.mono ?_;rintro e Y (⟨rfl,hJ',hk'⟩|⟨rfl,qX,_⟩)
   .clear hR hy
    have HJ2:=g hJ';have su:=g (HO.q _ _ Bc.q hk');clear hJ' hk'
    gi_wp2
    go_roundw
    case rel=>exact⟨k+1,by omega,by go_num,by rw[<-hstep.q];exact HJ2.q,su.q⟩
    case measure=>simp[H];omega
   .clear hR hy
    have HJ2:=g qX;clear qX
    gi_wp2
    go_ret;exact .inr ⟨rfl,_,hpx.q,HJ2.q⟩
  .have hkn:k=n:=by omega
   have htk:xs.take k=xs:=iH (by rw[HR.q.len];omega);rw[htk] at hj;have HJ2:=g hj;have su:=g hok;clear hj hok htk
   gi_wp2
   go_ret;exact .inl ⟨rfl,HJ2.q,su.q⟩
end
end Yd
namespace Yd
open Go Go.RowKit Go.Proofs Go.Shelf
open Lib renaming BuilderAtF->a,IsBuilderF->d,ownsRowF_kind->f,OthersKept->j,byteCells->m
theorem WI (B b:Nat)(bs:List Value)(s:ByteArray)(w:World)(h:d 58 5 B b bs w)(hlen:bs.length+s.size<=140737488355328)(hBw:B<=w.1.size):
  Calls Tryz.prog 19 #[.pointer (some ⟨b,0,none⟩),.string s] w λe w'=>e= .returned (.tuple #[.int .i64 s.size,.nilIface])/\(a 58 5 B b (.pointer (some ⟨b,0,none⟩)) (bs++Lib.strCells s) w'/\Below B w w'/\j 5 (some b) w w'):=
 Any.Builder_WriteString_k (P:=Tryz.prog) (ρ:=Tryz.lays156_ren) {Tryz.lays156 with} Tryz.Al B b bs s w h hlen hBw
structure tX (bb l:Nat)(s:Bs)(X:World):Prop where
 is:d 58 5 bb bb (m s) X
 fr:∀p v,X.1[bb]?=some (.cells #[p,v] 58 (0,0))->v.ownBlock≠some l/\v.ownBlock≠some (l+1)
theorem tX.lt {bb l:Nat}{s:Bs}{X:World}(h:tX bb l s X):bb<X.1.size:=by
 rcases h.is with⟨_,v,hb,_⟩|⟨_,v,hb,_⟩ <;> exact(dh.1 hb).1
theorem Dk {X Y:World}{B:Nat}{e:TypeId}{k:Nat}{v:Value}{n:Nat}{xs:List Value}(h:X.ownsRowF B e k v n xs)(hk:∀g,v.ownBlock=some g->Y.1[g]?=X.1[g]?):Y.ownsRowF B e k v n xs:=by
 obtain⟨h1,h2⟩:=h;refine⟨h1,?_⟩;rcases h2 with h2|⟨g,cap,cur,fz,rfl,hB,hh,r⟩
 .exact .inl h2
 .exact .inr ⟨g,cap,cur,fz,rfl,hB,(hk g rfl).trans hh,r⟩
theorem Mc {bb l:Nat}{p:Value}{bs:List Value}{X Y:World}(h:a 58 5 bb bb p bs X)(hs:Same (λi=>i<l\/l+2<=i) X Y)(hl:bb<l)
  (hf:∀p v,X.1[bb]?=some (.cells #[p,v] 58 (0,0))->v.ownBlock≠some l/\v.ownBlock≠some (l+1)):a 58 5 bb bb p bs Y:=by
 obtain⟨hB,v,hb,hown,hne⟩:=h;have hv:=hf _ _ hb;refine⟨hB,v,(hs.block _ (.inl hl) (dh.1 hb).1).trans hb,Dk hown (λg hg=>hs.block g ?_ (hown.lt g hg).2),hne⟩;have h1:g≠l:=λe=>hv.1 (e▸hg)
 have h2:g≠l+1:=λe=>hv.2 (e▸hg)
 omega
theorem tX.same {bb l:Nat}{s:Bs}{X Y:World}(h:tX bb l s X)(hs:Same (λi=>i<l\/l+2<=i) X Y)(hl:bb<l):tX bb l s Y:=
 ⟨h.is.elim (λx=> .inl (Mc x hs hl h.fr)) (λx=> .inr (Mc x hs hl h.fr)),λp v hb=>h.fr p v ((hs.block bb (.inl hl) h.lt).symm.trans hb)⟩
theorem tX.wrote {bb l:Nat}{s s':Bs}{X Y:World}(_h:tX bb l s X)(hY:d 58 5 bb bb (m s') Y)(hk:j 5 (some bb) X Y)(hl:bb<l)
  {o o':Obj} (h1:X.1[l]?=some o) (h2:X.1[l+1]?=some o') (c1:∀c fz,o≠ .cells c 5 fz) (c2:∀c fz,o'≠ .cells c 5 fz):tX bb l s' Y:=by
 refine⟨hY,λp v hb=>?_⟩;have k1:=hk l o h1 (by simp;omega) c1;have k2:=hk (l+1) o' h2 (by simp;omega) c2;have hown:∃n xs,Y.ownsRowF bb 5 1 v n xs:=by
  rcases hY with⟨_,v',hb',hown,_⟩|⟨_,v',hb',hown,_⟩ <;> (rw[hb] at hb';cases hb';exact⟨_,_,hown⟩)
 obtain⟨n,xs,hown⟩:=hown;refine⟨λhg=>?_,λhg=>?_⟩
 .obtain⟨c,fz,e⟩:=f hown l hg
  rw[k1] at e;cases e;exact c1 _ _ rfl
 .obtain⟨c,fz,e⟩:=f hown (l+1) hg
  rw[k2] at e;cases e;exact c2 _ _ rfl
theorem tX.call {bb l:Nat}{s:Bs}{X Y:World}(h:tX bb l s X)(hb:Below X.1.size X Y):tX bb l s Y:=by
 have hk:∀p bs,a 58 5 bb bb p bs X->a 58 5 bb bb p bs Y:=by
  rintro p bs ⟨hB,v,hb',hown,hne⟩;exact⟨hB,v,(hb.block _ h.lt).trans hb',Dk hown (λg hg=>hb.block g (hown.lt g hg).2),hne⟩
 exact⟨h.is.imp (hk _ _) (hk _ _),λp v hb'=>h.fr p v ((hb.block bb h.lt).symm.trans hb')⟩
end Yd
