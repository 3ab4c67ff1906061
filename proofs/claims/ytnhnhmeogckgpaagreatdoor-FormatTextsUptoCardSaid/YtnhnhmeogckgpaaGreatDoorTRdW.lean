import Derived.Test.YtnhnhmeogckgpaaGreatDoorTLawSt
import Derived.Laws.Externs
set_option linter.all false
set_option maxRecDepth 200000
set_option maxHeartbeats 8000000
namespace Yd
open Array renaming getElem?_eq_some_iff→K
open Bool renaming false→u,true→A
open Int renaming natCast_add→O
open List renaming drop_eq_getElem_cons→D,getElem?_eq_some_iff→I,take_add_one→L,getElem?_eq_getElem→N,length_take→S,findIdx?_eq_none_iff→U,take_of_length_le→V
open Nat renaming zero_le→H
open Option renaming some→G
open Go Go.RowKit Go.Proofs Tryz
open Go.IntKind renaming i64→J
open Go.Value renaming bool→E,int→Q
open RowKit renaming intOf→F
open Tryz renaming underlying9→z,prog→C
open Yd renaming hid→g
open _root_ renaming Int→B,Nat→M,UInt8→Z
theorem FU (q:Z→Bool):∀(l:Bs) (k:M) (b:Z),(∀x∈l.take k,q x=A)→l[k]?=G b→q b=u→l.takeWhile q=l.take k
 |[],_,_,_,h,_=>by simp at h
 |a::t,0,b,_,h,hb=>by
  obtain rfl:a=b:=by simpa using h
  rw[List.takeWhile_cons,hb];rfl
 |a::t,k+1,b,ha,h,hb=>by
  rw[List.takeWhile_cons,ha a ak,if_pos rfl,List.take_succ_cons,FU q t k b (fun x hx=>ha x (by simp[hx])) (by simpa using h) hb]
theorem R9 (q:Z→Bool) (l:Bs) (h:∀x∈l,q x=A):l.takeWhile q=l:=by
 induction l with
 |nil=>rfl
 |cons a t ih=>rw[List.takeWhile_cons,h a ak,if_pos rfl,ih (fun x hx=>h x (by simp[hx]))]
theorem Np (b:Z):lI b=((decide (b.toNat=46)||decide (b.toNat=95))||(decide (48≤b.toNat) && decide (b.toNat≤57))||(decide (97≤b.toNat) && decide (b.toNat≤122))||(decide (65≤b.toNat) && decide (b.toNat≤90))):=by
 have e:∀c:Z,(b==c)=decide (b.toNat=c.toNat):=fun c=>by
  by_cases h:b=c
  ·simp[h]
  ·rw[beq_eq_false_iff_ne.2 h,decide_eq_false (fun e=>h (UInt8.toNat_inj.1 e))]
 unfold lI;rw[e 46,e 95];rfl
theorem Pq {R p:M} {s l:Bs} {c:aV} {n:aB} (w:World) (h:bX w R s p l c n):
  Calls C 243 #[.pointer (G ⟨R,0,none⟩)] w (aW (.string ⟨(cB l).toArray⟩) w):=by
 have c0:=h.c0;have c1:=h.c1;have hlen:=h.len;have hlim:=h.lim;have hsl:=fun W=>lG z s p ah W
 rw[h.d] at hsl;have hll:l.length≤1000000:=by omega
 clear h hlen hlim;go_enter func243,ntmps243
 go_wp2_with (go_quiet (fail))
 clear hsl c0 c1
 go_loopw [] (fun wr=>∃k:M,k≤l.length∧wr.heap[w.heap.size]?=G (.stringIter ⟨l.toArray⟩ k)∧Below w.heap.size w wr∧∀x∈l.take k,lI x=A) (fun wr=>l.length - wr.iterPos w.heap.size)
 case atStart=>exact⟨0,H _,World.iter_heap (w.drewN _) ⟨l.toArray⟩ 0,dA (Below.refl _ _) _|>.trans (iq (w.drewN _) ⟨l.toArray⟩),by simp⟩
 case round=>
  obtain⟨k,hk,hit,hbw,hall⟩:=hrel;by_cases hp:k<l.length
  ·obtain⟨b,t,hbt⟩:∃b t,l.drop k=b::t:=⟨_,_,D hp⟩
   have hnx:∀ty,(Instr.next (.pointer (G ⟨w.heap.size,0,none⟩)) A ty).run C wr=_:=fun ty=>Lib.run_next_any_at wr w.heap.size ⟨l.toArray⟩ k ty hit (by rw[dR];exact hp)
   have hwd:=nT l k;rw[hbt] at hwd;rw[hwd] at hnx;have hkb:l[k]?=G b:=by
    have:=congrArg (fun l=>l[0]?) hbt
    simpa using this
   obtain⟨r,d,hr,hd⟩:∃(r:B) (d:M),r=((Utf8.decode ⟨(b::t).toArray⟩ 0).1:B)∧d=(Utf8.decode ⟨(b::t).toArray⟩ 0).2:=⟨_,_,rfl,rfl⟩;have hbr:(b.toNat<128∧r=b.toNat∧d=1)∨(128≤b.toNat∧128≤r):=by
    rcases Nat.lt_or_ge b.toNat 128 with h1|h1
    ·rw[mh b t h1] at hr hd;exact .inl ⟨h1,hr,hd⟩
    ·have:=(uV b t h1).1;exact .inr ⟨h1,by omega⟩
   rw[←hr,←hd] at hnx;have hit2:=Lib.iterAt_heap wr w.heap.size ⟨l.toArray⟩ k (k+d) hit;have hbw2:=Lib.below_iterAt hbw (k:=w.heap.size) (Nat.le_refl _) ⟨l.toArray⟩ (k+d);have yN:=g hbr;have FC:=g hall;have KJ:=g hkb;have HB2:=g hbw2;have HI2:=g hit2;have HIT:=g hit;have hsh:=fun W=>vZ z l k ah W
   have hcl:r=46∨r=95∨(48≤r∧r≤57)∨(97≤r∧r≤122)∨(65≤r∧r≤90)∨r<46∨r=47∨(57<r∧r<65)∨(90<r∧r<95)∨r=96∨122<r:=by omega
   clear hbr hall hkb hbw2 hit2 hbw hwd hr hd hbt hit;have GO:Hid ((r=46∨r=95∨(48≤r∧r≤57)∨(97≤r∧r≤122)∨(65≤r∧r≤90))→∃k':M,k'≤l.length∧(wr.iterAt w.heap.size ⟨l.toArray⟩ (k+d)).heap[w.heap.size]?=G (.stringIter ⟨l.toArray⟩ k')∧Below w.heap.size w (wr.iterAt w.heap.size ⟨l.toArray⟩ (k+d))∧∀x∈l.take k',lI x=A):=g (fun hr=>by
    rcases yN.q with⟨h1,h2,h3⟩|⟨h1,h2⟩
    ·refine⟨k+d,by omega,HI2.q,HB2.q,fun x hx=>?_⟩
     rw[h3,L,KJ.q] at hx;rcases List.mem_append.1 hx with hx|hx
     ·exact FC.q x hx
     ·obtain rfl:x=b:=by simpa using hx
      rw[Np];simp only[Bool.or_eq_true,Bool.and_eq_true,decide_eq_true_eq];omega
    ·exfalso;omega)
   have ME:Hid ((r=46∨r=95∨(48≤r∧r≤57)∨(97≤r∧r≤122)∨(65≤r∧r≤90))→l.length - (wr.iterAt w.heap.size ⟨l.toArray⟩ (k+d)).iterPos w.heap.size<l.length - wr.iterPos w.heap.size):=g (fun hr=>by
    rcases yN.q with⟨h1,h2,h3⟩|⟨h1,h2⟩
    ·rw[iterPos_of HI2.q,iterPos_of HIT.q];omega
    ·exfalso;omega)
   have ST:Hid (¬(r=46∨r=95∨(48≤r∧r≤57)∨(97≤r∧r≤122)∨(65≤r∧r≤90))→cB l=l.take k):=g (fun hr=>by
    refine FU lI l k b FC.q KJ.q ?_;rw[Np];simp only[Bool.or_eq_false_iff,Bool.and_eq_false_iff,decide_eq_false_iff_not];rcases yN.q with⟨h1,h2,h3⟩|⟨h1,h2⟩ <;> omega)
   rcases hcl with h1|h1|⟨h1,h2⟩|⟨h1,h2⟩|⟨h1,h2⟩|h1|h1|⟨h1,h2⟩|⟨h1,h2⟩|h1|h1
   ·subst h1
    go_wp2_with fail;go_roundw
    case rel=>exact GO.q aj
    case measure=>exact ME.q aj
   ·subst h1
    go_wp2_with fail;go_roundw
    case rel=>exact GO.q aj
    case measure=>exact ME.q aj
   ·have e46:(r !=46)=A:=bne_iff_ne.2 ah
    have Nq:(r !=95)=A:=bne_iff_ne.2 ah;have d0:decide (r<48)=u:=decide_eq_false ah;have d1:decide (57<r)=u:=decide_eq_false ah;have d2:decide (r<97)=A:=decide_eq_true ah;have d3:decide (122<r)=u:=decide_eq_false ah;have d4:decide (r<65)=A:=decide_eq_true ah;have d5:decide (90<r)=u:=decide_eq_false ah;go_wp2_with fail;go_roundw
    case rel=>exact GO.q ah
    case measure=>exact ME.q ah
   ·have e46:(r !=46)=A:=bne_iff_ne.2 ah
    have Nq:(r !=95)=A:=bne_iff_ne.2 ah;have d0:decide (r<48)=u:=decide_eq_false ah;have d1:decide (57<r)=A:=decide_eq_true ah;have d2:decide (r<97)=u:=decide_eq_false ah;have d3:decide (122<r)=u:=decide_eq_false ah;have d4:decide (r<65)=u:=decide_eq_false ah;have d5:decide (90<r)=A:=decide_eq_true ah;go_wp2_with fail;go_roundw
    case rel=>exact GO.q ah
    case measure=>exact ME.q ah
   ·have e46:(r !=46)=A:=bne_iff_ne.2 ah
    have Nq:(r !=95)=A:=bne_iff_ne.2 ah;have d0:decide (r<48)=u:=decide_eq_false ah;have d1:decide (57<r)=A:=decide_eq_true ah;have d2:decide (r<97)=A:=decide_eq_true ah;have d3:decide (122<r)=u:=decide_eq_false ah;have d4:decide (r<65)=u:=decide_eq_false ah;have d5:decide (90<r)=u:=decide_eq_false ah;go_wp2_with fail;go_roundw
    case rel=>exact GO.q ah
    case measure=>exact ME.q ah
   ·have e46:(r !=46)=A:=bne_iff_ne.2 ah
    have Nq:(r !=95)=A:=bne_iff_ne.2 ah;have d0:decide (r<48)=A:=decide_eq_true ah;have d1:decide (57<r)=u:=decide_eq_false ah;have d2:decide (r<97)=A:=decide_eq_true ah;have d3:decide (122<r)=u:=decide_eq_false ah;have d4:decide (r<65)=A:=decide_eq_true ah;have d5:decide (90<r)=u:=decide_eq_false ah;go_wp2_with fail;go_ret;exact⟨by rw[ST.q ah];rfl,HB2.q⟩
   ·subst h1
    go_wp2_with fail;go_ret;exact⟨by rw[ST.q aj];rfl,HB2.q⟩
   ·have e46:(r !=46)=A:=bne_iff_ne.2 ah
    have Nq:(r !=95)=A:=bne_iff_ne.2 ah;have d0:decide (r<48)=u:=decide_eq_false ah;have d1:decide (57<r)=A:=decide_eq_true ah;have d2:decide (r<97)=A:=decide_eq_true ah;have d3:decide (122<r)=u:=decide_eq_false ah;have d4:decide (r<65)=A:=decide_eq_true ah;have d5:decide (90<r)=u:=decide_eq_false ah;go_wp2_with fail;go_ret;exact⟨by rw[ST.q ah];rfl,HB2.q⟩
   ·have e46:(r !=46)=A:=bne_iff_ne.2 ah
    have Nq:(r !=95)=A:=bne_iff_ne.2 ah;have d0:decide (r<48)=u:=decide_eq_false ah;have d1:decide (57<r)=A:=decide_eq_true ah;have d2:decide (r<97)=A:=decide_eq_true ah;have d3:decide (122<r)=u:=decide_eq_false ah;have d4:decide (r<65)=u:=decide_eq_false ah;have d5:decide (90<r)=A:=decide_eq_true ah;go_wp2_with fail;go_ret;exact⟨by rw[ST.q ah];rfl,HB2.q⟩
   ·subst h1
    go_wp2_with fail;go_ret;exact⟨by rw[ST.q aj];rfl,HB2.q⟩
   ·have e46:(r !=46)=A:=bne_iff_ne.2 ah
    have Nq:(r !=95)=A:=bne_iff_ne.2 ah;have d0:decide (r<48)=u:=decide_eq_false ah;have d1:decide (57<r)=A:=decide_eq_true ah;have d2:decide (r<97)=u:=decide_eq_false ah;have d3:decide (122<r)=A:=decide_eq_true ah;have d4:decide (r<65)=u:=decide_eq_false ah;have d5:decide (90<r)=A:=decide_eq_true ah;go_wp2_with fail;go_ret;exact⟨by rw[ST.q ah];rfl,HB2.q⟩
  ·have hnx:∀ty,(Instr.next (.pointer (G ⟨w.heap.size,0,none⟩)) A ty).run C wr=_:=fun ty=>Lib.run_next_end_at wr w.heap.size ⟨l.toArray⟩ k ty hit (by rw[dR];exact hp)
   have HX:Hid (cB l=l):=g (R9 lI l (by rw[V ah] at hall;exact hall));have HB:=g hbw;clear hall hbw;go_wp2_with fail;go_ret;exact⟨by rw[HX.q];rfl,HB.q⟩
theorem zY (r:B) (w:World):Calls C 262 #[.int .i32 r] w (aW (E (iY r)) w):=by
 by_cases h1:48≤r <;> by_cases h2:r≤57
 all_goals
  go_enter func262,ntmps262;go_wp2_with fail;go_ret;exact⟨by simp[iY,h1,h2],Below.refl _ _⟩
def jL (l:Bs):Bs:=if l.head?=G 45 then(if(l.tail.takeWhile fD).length=0 then [] else l.take ((l.tail.takeWhile fD).length+1)) else l.takeWhile fD
theorem D6 (b:Z):fD b=(decide (48≤b.toNat) && decide (b.toNat≤57)):=rfl
def hz (l:Bs):M:=if l.head?=G 45 then 1 else 0
def BD (l:Bs) (k e:M):Prop:=(k=0∧e=0)∨(hz l≤k∧(∀x∈(l.take k).drop (hz l),fD x=A)∧e=(if k=hz l then 0 else k))
theorem Sb {q:Z→Bool} {l:Bs} {k:M} (h:∀x∈l.take k,q x=A) (hs:k=l.length∨∃b,l[k]?=G b∧q b=u) (hk:k≤l.length):(l.takeWhile q).length=k∧l.takeWhile q=l.take k:=by
 rcases hs with rfl|⟨b,hb,hq⟩
 ·rw[List.take_length] at h ⊢
  rw[R9 q l h];exact⟨rfl,rfl⟩
 ·rw[FU q l k b h hb hq]
  exact⟨by rw[S];omega,rfl⟩
theorem FV {l:Bs} {k e:M} (h:BD l k e) (hk:k≤l.length) (hs:k=l.length∨∃b,l[k]?=G b∧fD b=u∧¬(k=0∧b=45)):jL l=l.take e∧e≤l.length:=by
 unfold jL;by_cases h45:l.head?=G 45
 ·rw[if_pos h45]
  obtain⟨t,rfl⟩:∃t,l=45::t:=by cases l with
   |nil=>simp at h45
   |cons a t=>exact⟨t,by simpa using h45⟩
  have hz1:hz (45::t)=1:=rfl;unfold BD at h;rw[hz1] at h;rcases h with⟨rfl,rfl⟩|⟨h1,h2,h3⟩
  ·exfalso
   rcases hs with h|⟨b,hb,_,hn⟩
   ·simp at h
   ·exact hn ⟨rfl,by simpa using hb.symm⟩
  ·obtain⟨j,rfl⟩:∃j,k=j+1:=⟨k - 1,by omega⟩
   have ht:((45::t:Bs).tail.takeWhile fD).length=j∧_:=Sb (l:=t) (k:=j) (by simpa using h2) (by
    rcases hs with h|⟨b,hb,hq,_⟩
    ·exact .inl (by simpa using h)
    ·exact .inr ⟨b,by simpa using hb,hq⟩) (by simpa using hk)
   rw[ht.1];by_cases hj:j=0
   ·subst hj;rw[if_pos rfl,h3,if_pos rfl];exact⟨rfl,H _⟩
   ·rw[if_neg hj,h3,if_neg ah];exact⟨rfl,hk⟩
 ·rw[if_neg h45]
  have hz0:hz l=0:=if_neg h45;unfold BD at h;rw[hz0] at h;have he:e=k∧∀x∈l.take k,fD x=A:=by
   rcases h with⟨rfl,rfl⟩|⟨_,h2,h3⟩
   ·exact⟨rfl,by simp⟩
   ·exact⟨by rw[h3];split <;> omega,by simpa using h2⟩
  rw[he.1];exact⟨(Sb he.2 (by
   rcases hs with h|⟨b,hb,hq,_⟩
   ·exact .inl h
   ·exact .inr ⟨b,hb,hq⟩) hk).2,hk⟩
theorem afx {l:Bs} {k e:M} {b:Z} (h:BD l k e) (hb:l[k]?=G b) (hd:fD b=A):BD l (k+1) (k+1):=by
 have hzl:hz l≤k:=by
  rcases h with⟨rfl,_⟩|⟨h1,_⟩
  ·unfold hz
   split
   ·rename_i h45
    exfalso
    cases l with
    |nil=>simp at hb
    |cons a t=>
     obtain rfl:a=b:=by simpa using hb
     obtain rfl:a=45:=by simpa using h45
     exact absurd hd aj
   ·omega
  ·exact h1
 refine .inr ⟨by omega,fun x hx=>?_,by rw[if_neg ah]⟩;rw[L,hb,List.drop_append_of_le_length (by rw[S];have:=(I.1 hb).1;omega)] at hx;rcases List.mem_append.1 hx with hx|hx
 ·rcases h with⟨rfl,_⟩|⟨_,h2,_⟩
  ·simp at hx
  ·exact h2 x hx
 ·obtain rfl:x=b:=by simpa using hx
  exact hd
theorem Zx {l:Bs} {e:M} (h:BD l 0 e) (hb:l[0]?=G 45):e=0∧BD l 1 0:=by
 have h45:l.head?=G 45:=by cases l with
  |nil=>simp at hb
  |cons a t=>simpa using hb
 have hz1:hz l=1:=if_pos h45;refine⟨?_,.inr ⟨by omega,fun x hx=>?_,by rw[hz1,if_pos rfl]⟩⟩
 ·rcases h with⟨_,h⟩|⟨h1,_⟩
  ·exact h
  ·omega
 ·rw[hz1] at hx
  cases l with
  |nil=>simp at hx
  |cons a t=>simp at hx
theorem Nr (l:Bs) (hlim:l.length≤1000000) (w:World):Calls C 246 #[.string ⟨l.toArray⟩] w (pG (.string ⟨(jL l).toArray⟩) (.string ⟨(l.drop (jL l).length).toArray⟩) w):=by
 obtain⟨X,hX⟩:∃X,X=jL l:=⟨_,rfl⟩;rw[←hX];have HX:=g hX;have hbz:=dR l;clear hX;go_enter func246,ntmps246;go_wp2_with fail
 go_step3
 go_wp2_with fail
 go_step3
 go_wp2_with fail
 go_loopw [4] (fun v wr=>∃k e:M,v= Q J e∧k≤l.length∧e≤l.length∧wr.heap[w.heap.size]?=G (.stringIter ⟨l.toArray⟩ k)∧Below w.heap.size w wr∧BD l k e) (fun _ wr=>l.length - wr.iterPos w.heap.size)
 case atStart=>exact⟨0,0,rfl,H _,H _,World.iter_heap w ⟨l.toArray⟩ 0,iq w ⟨l.toArray⟩,.inl ⟨rfl,rfl⟩⟩
 case round=>
  obtain⟨k,e,rfl,hk,alm,hit,hbw,hat⟩:=hrel;by_cases hp:k<l.length
  ·obtain⟨b,t,hbt⟩:∃b t,l.drop k=b::t:=⟨_,_,D hp⟩
   have hnx:∀ty,(Instr.next (.pointer (G ⟨w.heap.size,0,none⟩)) A ty).run C wr=_:=fun ty=>Lib.run_next_any_at wr w.heap.size ⟨l.toArray⟩ k ty hit (by rw[dR];exact hp)
   have hwd:=nT l k;rw[hbt] at hwd;rw[hwd] at hnx;have hkb:l[k]?=G b:=by
    have:=congrArg (fun l=>l[0]?) hbt
    simpa using this
   obtain⟨r,d,hr,hd⟩:∃(r:B) (d:M),r=((Utf8.decode ⟨(b::t).toArray⟩ 0).1:B)∧d=(Utf8.decode ⟨(b::t).toArray⟩ 0).2:=⟨_,_,rfl,rfl⟩;have hbr:(b.toNat<128∧r=b.toNat∧d=1)∨(128≤b.toNat∧128≤r):=by
    rcases Nat.lt_or_ge b.toNat 128 with h1|h1
    ·rw[mh b t h1] at hr hd;exact .inl ⟨h1,hr,hd⟩
    ·have:=(uV b t h1).1;exact .inr ⟨h1,by omega⟩
   rw[←hr,←hd] at hnx;have hit2:=Lib.iterAt_heap wr w.heap.size ⟨l.toArray⟩ k (k+d) hit;have hbw2:=Lib.below_iterAt hbw (k:=w.heap.size) (Nat.le_refl _) ⟨l.toArray⟩ (k+d);have yN:=g hbr;have HAT:=g hat;have KJ:=g hkb;have HB2:=g hbw2;have HI2:=g hit2;have HIT:=g hit;have hDB:fD b=iY r:=by
    rw[D6];unfold iY;rcases hbr with⟨h1,h2,h3⟩|⟨h1,h2⟩
    ·rw[h2];congr 1 <;> exact decide_eq_decide.2 ah
    ·rw[decide_eq_false (show ¬b.toNat≤57 by omega),decide_eq_false (show ¬r≤57 by omega),Bool.and_false,Bool.and_false]
   have HDB:=g hDB;clear hbr hat hkb hbw2 hit2 hbw hwd hr hd hbt hit hDB
   cases jR:iY r
   ·by_cases hsg:k=0∧r=45
    ·obtain⟨rfl,rfl⟩:=hsg
     have VP:b=45∧d=1:=by
      rcases yN.q with⟨h1,h2,h3⟩|⟨h1,h2⟩
      ·exact⟨UInt8.toNat_inj.1 (by show b.toNat=45;omega),h3⟩
      ·exfalso;omega
     obtain⟨rfl,rfl⟩:=VP;obtain⟨h0,h1⟩:=Zx HAT.q KJ.q;have H1:=g h1;have HI3:Hid ((wr.iterAt w.heap.size ⟨l.toArray⟩ (0+1)).heap[w.heap.size]?=G (.stringIter ⟨l.toArray⟩ 1)):=HI2;clear h1
     go_wp2_with (first|(go_at_call 262;refine(zY _ _).mono ?_;rintro e w3 ⟨rfl,hb3⟩;rw[jR];have HB3:=g (HB2.q.bq hb3);have HI4:=g ((hb3.block w.heap.size (by have:=(K.1 HI2.q).1;exact this)).trans HI3.q);clear hb3)|fail)
     go_roundw
     case rel=>exact⟨1,0,rfl,by omega,H _,HI4.q,HB3.q,H1.q⟩
     case measure=>rw[iterPos_of HI4.q,iterPos_of HIT.q];omega
    ·by_cases hk0:k=0
     ·subst hk0
      rw[Nat.zero_add] at HB2;have aln:(r !=45)=A:=bne_iff_ne.2 (fun e=>hsg ⟨rfl,e⟩);have HSG:=g hsg;clear hsg;have HE:=g (FV HAT.q ah (.inr ⟨b,KJ.q,by rw[HDB.q,jR],fun e=>HSG.q ⟨rfl,by rcases yN.q with⟨h1,h2,h3⟩|⟨h1,h2⟩ <;> (rw[e.2] at h1;simp at h1);rw[h2,e.2];rfl⟩⟩));have hsh:=fun W=>vZ z l e HE.q.2 W
      have hsl:=fun W=>lG z l e HE.q.2 W
      have hel:(l.take e).length=e:=by rw[S];have:=HE.q.2;omega
      have Sc:=g hel;clear hel
      go_wp2_with (first|(go_at_call 262;refine(zY _ _).mono ?_;rintro e w3 ⟨rfl,hb3⟩;rw[jR];have HB3:=g (HB2.q.bq hb3);clear hb3)|go_quiet (fail))
      change bodyPost _ _ _ Exit.ret _ _
      go_ret2
      exact⟨by rw[HX.q,HE.q.1,Sc.q];rfl,dA HB3.q _⟩
     ·have hk1:decide ((0:B)<(k:B))=A:=decide_eq_true ah
      have hk2:decide (0<k)=A:=decide_eq_true ah;have Ns:=g hk0;clear hk0 hsg;have HE:=g (FV HAT.q ah (.inr ⟨b,KJ.q,by rw[HDB.q,jR],fun e=>Ns.q e.1⟩));have hsh:=fun W=>vZ z l e HE.q.2 W
      have hsl:=fun W=>lG z l e HE.q.2 W
      have hel:(l.take e).length=e:=by rw[S];have:=HE.q.2;omega
      have Sc:=g hel;clear hel
      go_wp2_with (first|(go_at_call 262;refine(zY _ _).mono ?_;rintro e w3 ⟨rfl,hb3⟩;rw[jR];have HB3:=g (HB2.q.bq hb3);clear hb3)|go_quiet (fail))
      change bodyPost _ _ _ Exit.ret _ _
      go_ret2
      exact⟨by rw[HX.q,HE.q.1,Sc.q];rfl,dA HB3.q _⟩
   ·have hb1:d=1:=by
     rcases yN.q with⟨h1,h2,h3⟩|⟨h1,h2⟩
     ·exact h3
     ·simp[iY] at jR;omega
    subst hb1;have H1:=g (afx HAT.q KJ.q (by rw[HDB.q,jR]))
    go_wp2_with (first|(go_at_call 262;refine(zY _ _).mono ?_;rintro e w3 ⟨rfl,hb3⟩;rw[jR];have HB3:=g (HB2.q.bq hb3);have HI4:=g ((hb3.block w.heap.size (by have:=(K.1 HI2.q).1;exact this)).trans HI2.q);clear hb3)|fail)
    go_roundw
    case rel=>exact⟨k+1,k+1,by go_num,by omega,by omega,HI4.q,HB3.q,H1.q⟩
    case measure=>rw[iterPos_of HI4.q,iterPos_of HIT.q];omega
  ·have hnx:∀ty,(Instr.next (.pointer (G ⟨w.heap.size,0,none⟩)) A ty).run C wr=_:=fun ty=>Lib.run_next_end_at wr w.heap.size ⟨l.toArray⟩ k ty hit (by rw[dR];exact hp)
   have HE:=g (FV hat hk (.inl ah));have hsh:=fun W=>vZ z l e HE.q.2 W
   have hsl:=fun W=>lG z l e HE.q.2 W
   have hel:(l.take e).length=e:=by rw[S];have:=HE.q.2;omega
   have Sc:=g hel;have HB:=g hbw;clear hel hbw hat
   go_wp2_with (go_quiet (fail))
   change bodyPost _ _ _ Exit.ret _ _
   go_ret2
   exact⟨by rw[HX.q,HE.q.1,Sc.q];rfl,dA HB.q _⟩
theorem Zy (i:M) (hi:i≤9) (W:World):(callFunc 266 #[.int .u64 0,.int .u64 (i:B),.int .u64 0]).run C W= .ok (.value (.tuple #[.int .u64 (i:B),.int .u64 0])) W:=by
 rw[run_callFunc_extern (e:=add64Entry) func266 au au au au,run_add64 0 i 0 ah ah ah ah];rw[show(0+(i:B)+0) % 18446744073709551616=(i:B) by omega,show(0+(i:B)+0) / 18446744073709551616=0 by omega];rfl
theorem Zz (i:M) (hi:i≤9) (w:World):Calls C 251 #[.agg #[.int .u64 0,E u,E u],.int .i32 ((48+i:M):B)] w (aW (.agg #[.int .u64 i,E u,E u]) w):=by
 have HM:=fun W=>g (Tryz.bits_Mul64 0 10 aj aj W)
 have HB:=g (av (av (Below.refl w.heap.size w) (.cells #[.int .u64 0,E u,E u] 289)) (.cells #[.int .u64 0,E u,E u] 289));have hA:=fun W=>Zy i hi W
 have HX:=g ((Bx.new w #[.int .u64 0,E u,E u] 289).alloc (.cells #[.int .u64 0,E u,E u] 289));rcases(by omega:i=0∨i=1∨i=2∨i=3∨i=4∨i=5∨i=6∨i=7∨i=8∨i=9) with rfl|rfl|rfl|rfl|rfl|rfl|rfl|rfl|rfl|rfl
 all_goals
  simp only[Int.cast_ofNat_Int] at hA;go_enter func251,ntmps251;go_wp2_with fail;refine(HM _).q.mono ?_;rintro e w1 ⟨rfl,rfl⟩;go_wp2_with fail;refine bodyPost_ret (v:=_) ?_ rfl ⟨rfl,av (av (Below.refl _ _) _) _⟩;simp[results,results251,go_sem]
theorem Sd (i:M) (hi:i≤9) (w:World):Calls C 252 #[.agg #[.int .u64 i,E u,E u]] w (pG (Q J i) (E A) w):=by
 rcases(by omega:i=0∨i=1∨i=2∨i=3∨i=4∨i=5∨i=6∨i=7∨i=8∨i=9) with rfl|rfl|rfl|rfl|rfl|rfl|rfl|rfl|rfl|rfl
 all_goals
  go_enter func252,ntmps252;go_wp2_with fail
  go_ret2
  exact⟨rfl,av (Below.refl _ _) _⟩
theorem VQ (b:Z) (h:fD b=A) (h45:b≠45):jL [b]=[b]:=by
 unfold jL;rw[if_neg (by simp[h45])];simp[h]
theorem YU (b:Z) (h48:48≤b.toNat) (h57:b.toNat≤57) (w:World):Calls C 229 #[.string ⟨#[b]⟩] w (pG (Q J ((b.toNat - 48:M):B)) (Q J 0) w):=by
 obtain⟨i,hi⟩:∃i,i=b.toNat - 48:=⟨_,rfl⟩;rw[←hi];have hb:48+i=b.toNat:=by omega
 have HH:=fun W=>g (Nr [b] ak W)
 rw[VQ b (by rw[D6];simp[h48,h57]) (fun e=>by rw[e] at h48;exact absurd h48 aj)] at HH;have HW:=fun W=>g (Zz i ah W)
 have HN:=fun W=>g (Sd i ah W)
 rw[hb] at HW;have hi0:∀W,(Instr.index 9 (.string ⟨#[b]⟩) (Q J 0)).run C W= .ok (.int .u8 (b.toNat:B)) W:=fun W=>gQ z [b] 0 b rfl W
 have e45:((b.toNat:B)==45)=u:=beq_eq_false_iff_ne.2 ah;have hempty:(([b]:Bs)==([]:Bs))=u:=rfl;have HD:=g (mh b [] ah);clear h48 h57 hi hb
 cases h0:((b.toNat:B)==48)
 all_goals
  go_enter func229,ntmps229;go_wp2_with fail;refine(HH _).q.mono ?_;rintro e w1 ⟨rfl,hb1⟩;have HB1:=g ((av hb1 (.cells #[.int .u64 0,E u,E u] 289)).trans (iq _ ⟨#[b]⟩|>.mono (by have:=hb1.size;simp;omega)));have cK:=g (((Bx.new w1 #[.int .u64 0,E u,E u] 289)).keep (iq _ ⟨#[b]⟩));have HZ:Hid (w.heap.size≤w1.heap.size):=g hb1.size;clear hb1;go_wp2_with fail
  go_loopw [] (fun wr=>∃(W:World) (k v:M),W=wr∧((k=0∧v=0)∨(k=1∧v=i))∧wr.heap[w1.heap.size+1]?=G (.stringIter ⟨#[b]⟩ k)∧Bx wr w1.heap.size #[.int .u64 v,E u,E u]∧Below w.heap.size w wr) (fun wr=>2 - wr.iterPos (w1.heap.size+1))
  case atStart=>exact⟨_,0,0,rfl,.inl ⟨rfl,rfl⟩,(by have:=World.iter_heap (w1.alloc (.cells #[.int .u64 0,E u,E u] 289)) ⟨#[b]⟩ 0;rwa[World.size_alloc] at this),cK.q,HB1.q⟩
  case round=>
   obtain⟨W,k,v,rfl,hkv,hit,hbx,hbw⟩:=hrel;have HIT:=g hit;have fM:=g hbx;have bK:=g hbw;have hcx:=hbx.1;have hfx:=hbx.2.1;clear hbx hbw;rcases hkv with⟨rfl,rfl⟩|⟨rfl,rfl⟩
   ·have hnx:∀ty,(Instr.next (.pointer (G ⟨w1.heap.size+1,0,none⟩)) A ty).run C W= .ok (.tuple #[E A,Q J 0,.int .i32 (b.toNat:B)]) (W.iterAt (w1.heap.size+1) ⟨#[b]⟩ 1):=fun ty=>by
     have h:=Lib.run_next_any_at (P:=C) W (w1.heap.size+1) ⟨#[b]⟩ 0 ty hit (by simp[ByteArray.size]);rw[show Utf8.decode ⟨#[b]⟩ 0=(b.toNat,1) from HD.q] at h;exact h
    have HI2:=g (Lib.iterAt_heap W (w1.heap.size+1) ⟨#[b]⟩ 0 1 hit);have HB2:=g (Lib.below_iterAt bK.q (k:=w1.heap.size+1) (by have:=HZ.q;omega) ⟨#[b]⟩ 1);clear hit;have hbv:=fM.q.of_eq (Y:=W.iterAt (w1.heap.size+1) ⟨#[b]⟩ 1) (by rw[Lib.iterAt_size];exact Nat.le_refl _) (Lib.iterAt_other W _ _ _ _ ah);have hcv:=hbv.1;have F9:=g hbv;clear hbv hcx hfx;go_wp2_with fail;refine(HW _).q.mono ?_;rintro e w4 ⟨rfl,hb4⟩;have eH:=g (HB2.q.bq hb4);have hb5:=F9.q.keep hb4;have gY:=g hb5;have y8:=hb5.1;have hf5:=hb5.2.1;have HI4:=g ((hb4.block (w1.heap.size+1) (K.1 HI2.q).1).trans HI2.q);clear hb4 hb5 hcv;go_wp2_with fail;have hz:Same (fun j=>j≠w1.heap.size) w4 (((w4.setCell ⟨w1.heap.size,0,none⟩ (.int .u64 i)).setCell ⟨w1.heap.size,1,none⟩ (E u)).setCell ⟨w1.heap.size,2,none⟩ (E u)):=(((Same.refl' w4).setTail (fun h=>h rfl)).setTail (fun h=>h rfl)).setTail (fun h=>h rfl);have HI5:=g ((hz.block (w1.heap.size+1) ah (K.1 HI4.q).1).trans HI4.q);have HZ5:=g (hz.below eH.q (fun j hj=>by have:=HZ.q;omega) eH.q.size);clear hz;go_roundw
    case rel=>exact⟨_,1,i,rfl,.inr ⟨rfl,rfl⟩,HI5.q,((gY.q.aR 0 ak (.int .u64 i)).aR 1 ak (E u)).aR 2 ak (E u),HZ5.q⟩
    case measure=>rw[iterPos_of HI5.q,iterPos_of HIT.q];omega
   ·have hnx:∀ty,(Instr.next (.pointer (G ⟨w1.heap.size+1,0,none⟩)) A ty).run C W=_:=fun ty=>Lib.run_next_end_at W (w1.heap.size+1) ⟨#[b]⟩ 1 ty hit (by simp[ByteArray.size])
    clear hit;go_wp2_with fail;refine(HN _).q.mono ?_;rintro e w3 ⟨rfl,hb3⟩;have HB3:=g (bK.q.bq hb3);clear hb3;go_wp2_with fail
    go_ret2
    exact⟨rfl,HB3.q⟩
theorem GX {x t:Bs} {k:M} {a:Z} (h1:x[k]?=G a) (h2:t[k]?=G a):gG (x.drop k) (t.drop k)=gG (x.drop (k+1)) (t.drop (k+1))+1:=by
 obtain⟨l1,e1⟩:=I.1 h1;obtain⟨l2,e2⟩:=I.1 h2;rw[D l1,D l2,e1,e2];simp[gG]
theorem sj {x t:Bs} {k:M} (h:x.length≤k∨t.length≤k∨∃a b,x[k]?=G a∧t[k]?=G b∧a≠b):gG (x.drop k) (t.drop k)=0:=by
 rcases h with h|h|⟨a,b,h1,h2,h3⟩
 ·rw[List.drop_eq_nil_of_le h];simp[gG]
 ·rw[List.drop_eq_nil_of_le h];cases x.drop k <;> simp[gG]
 ·obtain⟨l1,e1⟩:=I.1 h1
  obtain⟨l2,e2⟩:=I.1 h2;rw[D l1,D l2,e1,e2];simp[gG,h3]
theorem ZA (x t:Bs):gG x t≤t.length:=by
 induction x generalizing t with
 |nil=>simp[gG]
 |cons a x ih=>
  cases t with
  |nil=>simp[gG]
  |cons b t=>
   simp only[gG]
   split
   ·have:=ih t;simp;omega
   ·simp
theorem KL (ws:List Bs) (s t:Bs):uy (ws++[s]) t=max (uy ws t) (gG s t):=by simp[uy]
theorem Sg (ws:List Bs) (t:Bs):uy ws t≤t.length:=by
 have:∀(ws:List Bs) (m:M),m≤t.length→ws.foldl (fun m s=>max m (gG s t)) m≤t.length:=by
  intro ws
  induction ws with
  |nil=>intro m hm;exact hm
  |cons s ws ih=>intro m hm;exact ih (max m (gG s t)) (Nat.max_le.2 ⟨hm,ZA s t⟩)
 exact this ws 0 (H _)
theorem FW {R p:M} {s l:Bs} {c:aV} {n:aB} (w:World) (h:bX w R s p l c n) (a:Option Addr) (nn cc:M) (ws:List Bs) (hr:Row w 1 encStr a nn cc ws) (hnn:nn≤100) (hw:∀x∈ws,x.length≤100) (qm:∀x∈ws,(128:Z)∉x):
  Calls C 217 #[.pointer (G ⟨R,0,none⟩),.slice a nn cc] w (kM R s c n w (fun i:M=> Q J i) (bZ ws l)):=by
 have HS:=g (Pq w h);obtain⟨X,hX⟩:∃X,X=bZ ws l:=⟨_,rfl⟩;rw[←hX];obtain⟨T,hT⟩:∃T,T=cB l:=⟨_,rfl⟩;rw[←hT] at HS;obtain⟨Wh,hWh⟩:∃Wh,Wh=kE l:=⟨_,rfl⟩;have hTl:T.length≤l.length:=by rw[hT];have:=lY lI l;unfold cB;omega
 have hcs:(l.drop T.length=[]∧Wh=T)∨(∃b t,l.drop T.length=b::t∧b.toNat<128∧Wh=T)∨(∃b t,l.drop T.length=b::t∧128≤b.toNat∧Wh=T++[128]):=by
  unfold kE at hWh;rw[←hT] at hWh
  cases hd:l.drop T.length with
  |nil=>rw[hd] at hWh;exact .inl ⟨rfl,hWh⟩
  |cons b t=>
   rw[hd] at hWh;simp only[List.head?_cons] at hWh;by_cases h1:(128:Z)≤b
   ·rw[if_pos h1] at hWh;exact .inr (.inr ⟨b,t,rfl,h1,hWh⟩)
   ·rw[if_neg h1] at hWh;exact .inr (.inl ⟨b,t,rfl,Nat.lt_of_not_le h1,hWh⟩)
 have hlen:=h.len;have hlim:=h.lim;have HX:=g hX;have HT:=g hT;have HWH:=g hWh;have HH:=g h;have HR:=g hr;have HW:=g hw;have HWA:=g qm;have hz:=dR s;have hzT:=dR T;clear hX hT hWh h hr hw qm;rcases hcs with⟨hd,KM⟩|⟨b,t,hd,hb,KM⟩|⟨b,t,hd,hb,KM⟩
 case' inr.inr=>
  have hend:p+T.length<s.length:=by
   have:=congrArg List.length hd;simp at this;omega
  have hd1:decide ((p:B)+(T.length:B)<(s.length:B))=A:=decide_eq_true ah;have hsb:s[p+T.length]?=G b:=by
   have:=congrArg (fun l=>l[0]?) hd;rw[←HH.q.d] at this
   simpa using this
  have hix:=fun W=>gQ z s (p+T.length) b hsb W
  rw[O] at hix;have hb1':decide ((128:B)≤(b.toNat:B))=A:=decide_eq_true ah;have alo:((⟨T.toArray⟩:ByteArray)++⟨#[128]⟩)=⟨Wh.toArray⟩:=by rw[KM];exact KN T [128]
  have Ye:=g KM;clear hd hsb KM;go_enter func217,ntmps217;go_wp2_with fail;refine HS.q.mono ?_;rintro e w1 ⟨rfl,hb1⟩;have H1:=g (HH.q.below hb1);have HB1:=g hb1;have c0:=H1.q.c0;have c1:=H1.q.c1;clear hb1
  go_wp2_with (go_quiet (fail))
  clear hd1 c0 c1
  go_loopw [8,47] (fun f i wr=>∃k m:M,k≤nn∧i= Q J k∧f= Q J m∧m=uy (ws.take k) T∧(∀x∈ws.take k,x≠Wh)∧Below w.heap.size w wr) (fun _ i _=>nn - (F i).toNat)
  case atStart=>exact⟨0,0,H _,rfl,rfl,rfl,by simp,dA HB1.q _⟩
  case round=>
   obtain⟨k,m,hk,rfl,rfl,hm,hne,hbw⟩:=hrel;have hmt:m≤T.length:=by rw[hm];exact Sg _ _
   have hml:m≤1000000:=by omega
   by_cases hlt:k<nn
   ·obtain⟨x,b',o,hx,rfl,hc⟩:=(HR.q.below hbw rfl).at_ hlt
    have hc0:=hc 0 _ rfl;simp only[Nat.mul_one,Nat.add_zero] at hc0;have hxw:x∈ws:=List.mem_of_getElem? hx;have hxl:=HW.q x hxw;have bK:=g hbw;have HM:=g hm;have jf:=g hne;have tF:=g hx;have Jj:=g hxw;have HC:=g (HH.q.below hbw);have c1:=HC.q.c1;have z1:=f1 HC.q 1;clear hc hbw hm hne hx hxw
    cases hxe:x==Wh
    ·clear c1 z1
     have END:Hid (∀(W':World) (q:M),Below w.heap.size w W'→gG x T=q→∃k' m':M,k'≤nn∧Value.int J ((k:B)+1)= Q J k'∧Value.int J (max (m:B) (q:B))= Q J m'∧m'=uy (ws.take k') T∧(∀y∈ws.take k',y≠Wh)∧Below w.heap.size w W'):=g (fun W' q hb hq=>
      ⟨k+1,max m q,by omega,by rw[O];rfl,congrArg (Value.int J) ah,by rw[L,tF.q,Option.toList_some,KL,hq,←HM.q],fun y hy=>by
       rw[L,tF.q] at hy;rcases List.mem_append.1 hy with hy|hy
       ·exact jf.q y hy
       ·obtain rfl:y=x:=by simpa using hy
        exact fun e=>by rw[e] at hxe;simp at hxe,hb⟩)
     go_wp2_with fail
     go_loopw [11] (fun j wx=>∃W,W=wx∧∃q:M,j= Q J q∧q≤T.length∧q≤x.length∧gG (x.drop q) (T.drop q)+q=gG x T∧Below w.heap.size w W) (fun j _=>T.length - (F j).toNat)
     case atStart=>exact⟨_,rfl,0,rfl,H _,H _,by simp,bK.q⟩
     case round=>
      obtain⟨W,rfl,q,rfl,hqT,hqx,hcm,hbx⟩:=hrel;have fM:=g hbx;have HCM:=g hcm;clear hbx hcm;by_cases h1:q<x.length
      ·by_cases h2:q<T.length
       ·have hd3:decide ((q:B)<min (x.length:B) (T.length:B))=A:=decide_eq_true ah
        obtain⟨a1,ha1⟩:∃a1,x[q]?=G a1:=⟨_,N h1⟩;obtain⟨a2,ha2⟩:∃a2,T[q]?=G a2:=⟨_,N h2⟩;have hi1:=fun W=>gQ z x q a1 ha1 W
        have hi2:=fun W=>gQ z T q a2 ha2 W
        have HA1:=g ha1;have HA2:=g ha2;have HL:=g (⟨h1,h2⟩:_∧_);clear ha1 ha2 h1 h2;by_cases he:a1=a2
        ·have hb:((a1.toNat:B)==(a2.toNat:B))=A:=by simp[he]
         have HE:=g he;clear he
         go_wp2_with (go_quiet (fail))
         go_roundw
         case rel=>exact⟨_,rfl,q+1,by go_num,HL.q.2,HL.q.1,by have:=GX HA1.q (HE.q▸HA2.q);have:=HCM.q;omega,dA fM.q _⟩
         case measure=>have:=HL.q.2;simp[F];omega
        ·have hb:((a1.toNat:B)==(a2.toNat:B))=u:=beq_eq_false_iff_ne.2 (fun e=>he (UInt8.toNat_inj.1 ah))
         have HE:=g he;clear he
         go_wp2_with (go_quiet (fail))
         go_roundw
         case rel=>exact END.q _ q (dA fM.q _) (by have:=sj (.inr (.inr ⟨a1,a2,HA1.q,HA2.q,HE.q⟩));have:=HCM.q;omega)
         case measure=>simp[F];omega
       ·have hd3:decide ((q:B)<min (x.length:B) (T.length:B))=u:=decide_eq_false ah
        have HL:=g h2;clear h2
        go_wp2_with (go_quiet (fail))
        go_roundw
        case rel=>exact END.q _ q (dA fM.q _) (by have:=sj (x:=x) (t:=T) (k:=q) (.inr (.inl (by have:=HL.q;omega)));have:=HCM.q;omega)
        case measure=>simp[F];omega
      ·have hd3:decide ((q:B)<min (x.length:B) (T.length:B))=u:=decide_eq_false ah
       have HL:=g h1;clear h1
       go_wp2_with (go_quiet (fail))
       go_roundw
       case rel=>exact END.q _ q (dA fM.q _) (by have:=sj (x:=x) (t:=T) (k:=q) (.inl (by have:=HL.q;omega));have:=HCM.q;omega)
       case measure=>simp[F];omega
    ·exfalso
     have Yi:x=Wh:=by simpa using hxe
     have h128:=HWA.q x Jj.q;rw[Yi,Ye.q] at h128;exact h128 ak
   ·obtain rfl:k=nn:=by omega
    have hF:∀W,Calls C 164 #[Q J ((p:B)+(m:B)),Q J 220] W (fun e w'=>e= .panicked (lM (p+m) 220)∧w'=W):=fun W=>by
     have:=jT (p+m) 220 W
     rwa[O] at this
    have HF:=fun W=>g (hF W)
    have htk:ws.take k=ws:=V (by rw[HR.q.len];exact Nat.le_refl _);rw[htk] at hm hne;have Nt:Hid (bZ ws l= .error (l.drop m,220)):=g (by
     unfold bZ;rw[←HT.q,←HWH.q,U.2 (fun y hy=>by simpa using hne y hy),←hm])
    have bK:=g hbw;have HC:=g (HH.q.below hbw);have c1:=HC.q.c1;clear hm hne hbw hF htk;go_wp2_with fail;refine(HF _).q.mono ?_;rintro e w4 ⟨rfl,rfl⟩;refine⟨rfl,?_⟩;show kM R s c n w _ _ _ _;rw[HX.q,Nt.q];refine⟨?_,Same.of_below bK.q (fun _ _ h=>h)⟩;rw[show s.length - (l.drop m).length=p+m by rw[List.length_drop];omega]
 case' inl=>
  have hend:p+T.length=s.length:=by
   have:=congrArg List.length hd;simp at this;omega
  subst KM;have hd1:decide ((p:B)+(Wh.length:B)<(s.length:B))=u:=decide_eq_false ah;clear hd
 case' inr.inl=>
  have hend:p+T.length<s.length:=by
   have:=congrArg List.length hd;simp at this;omega
  subst KM;have hd1:decide ((p:B)+(Wh.length:B)<(s.length:B))=A:=decide_eq_true ah;have hsb:s[p+Wh.length]?=G b:=by
   have:=congrArg (fun l=>l[0]?) hd;rw[←HH.q.d] at this
   simpa using this
  have hix:=fun W=>gQ z s (p+Wh.length) b hsb W
  rw[O] at hix;have hb1':decide ((128:B)≤(b.toNat:B))=u:=decide_eq_false ah;clear hd hsb
 all_goals
  go_enter func217,ntmps217;go_wp2_with fail;refine HS.q.mono ?_;rintro e w1 ⟨rfl,hb1⟩;have H1:=g (HH.q.below hb1);have HB1:=g hb1;have c0:=H1.q.c0;have c1:=H1.q.c1;clear hb1
  go_wp2_with (go_quiet (fail))
  clear hd1 c0 c1
  go_loopw [8,47] (fun f i wr=>∃k m:M,k≤nn∧i= Q J k∧f= Q J m∧m=uy (ws.take k) Wh∧(∀x∈ws.take k,x≠Wh)∧Below w.heap.size w wr) (fun _ i _=>nn - (F i).toNat)
  case atStart=>exact⟨0,0,H _,rfl,rfl,rfl,by simp,dA HB1.q _⟩
  case round=>
   obtain⟨k,m,hk,rfl,rfl,hm,hne,hbw⟩:=hrel;have hmt:m≤Wh.length:=by rw[hm];exact Sg _ _
   have hml:m≤1000000:=by omega
   by_cases hlt:k<nn
   ·obtain⟨x,b',o,hx,rfl,hc⟩:=(HR.q.below hbw rfl).at_ hlt
    have hc0:=hc 0 _ rfl;simp only[Nat.mul_one,Nat.add_zero] at hc0;have hxw:x∈ws:=List.mem_of_getElem? hx;have hxl:=HW.q x hxw;have bK:=g hbw;have HM:=g hm;have jf:=g hne;have tF:=g hx;have Jj:=g hxw;have HC:=g (HH.q.below hbw);have c1:=HC.q.c1;have z1:=f1 HC.q 1;clear hc hbw hm hne hx hxw
    cases hxe:x==Wh
    ·clear c1 z1
     have END:Hid (∀(W':World) (q:M),Below w.heap.size w W'→gG x Wh=q→∃k' m':M,k'≤nn∧Value.int J ((k:B)+1)= Q J k'∧Value.int J (max (m:B) (q:B))= Q J m'∧m'=uy (ws.take k') Wh∧(∀y∈ws.take k',y≠Wh)∧Below w.heap.size w W'):=g (fun W' q hb hq=>
      ⟨k+1,max m q,by omega,by rw[O];rfl,congrArg (Value.int J) ah,by rw[L,tF.q,Option.toList_some,KL,hq,←HM.q],fun y hy=>by
       rw[L,tF.q] at hy;rcases List.mem_append.1 hy with hy|hy
       ·exact jf.q y hy
       ·obtain rfl:y=x:=by simpa using hy
        exact fun e=>by rw[e] at hxe;simp at hxe,hb⟩)
     go_wp2_with fail
     go_loopw [11] (fun j wx=>∃W,W=wx∧∃q:M,j= Q J q∧q≤Wh.length∧q≤x.length∧gG (x.drop q) (Wh.drop q)+q=gG x Wh∧Below w.heap.size w W) (fun j _=>Wh.length - (F j).toNat)
     case atStart=>exact⟨_,rfl,0,rfl,H _,H _,by simp,bK.q⟩
     case round=>
      obtain⟨W,rfl,q,rfl,hqT,hqx,hcm,hbx⟩:=hrel;have fM:=g hbx;have HCM:=g hcm;clear hbx hcm;by_cases h1:q<x.length
      ·by_cases h2:q<Wh.length
       ·have hd3:decide ((q:B)<min (x.length:B) (Wh.length:B))=A:=decide_eq_true ah
        obtain⟨a1,ha1⟩:∃a1,x[q]?=G a1:=⟨_,N h1⟩;obtain⟨a2,ha2⟩:∃a2,Wh[q]?=G a2:=⟨_,N h2⟩;have hi1:=fun W=>gQ z x q a1 ha1 W
        have hi2:=fun W=>gQ z Wh q a2 ha2 W
        have HA1:=g ha1;have HA2:=g ha2;have HL:=g (⟨h1,h2⟩:_∧_);clear ha1 ha2 h1 h2;by_cases he:a1=a2
        ·have hb:((a1.toNat:B)==(a2.toNat:B))=A:=by simp[he]
         have HE:=g he;clear he
         go_wp2_with (go_quiet (fail))
         go_roundw
         case rel=>exact⟨_,rfl,q+1,by go_num,HL.q.2,HL.q.1,by have:=GX HA1.q (HE.q▸HA2.q);have:=HCM.q;omega,dA fM.q _⟩
         case measure=>have:=HL.q.2;simp[F];omega
        ·have hb:((a1.toNat:B)==(a2.toNat:B))=u:=beq_eq_false_iff_ne.2 (fun e=>he (UInt8.toNat_inj.1 ah))
         have HE:=g he;clear he
         go_wp2_with (go_quiet (fail))
         go_roundw
         case rel=>exact END.q _ q (dA fM.q _) (by have:=sj (.inr (.inr ⟨a1,a2,HA1.q,HA2.q,HE.q⟩));have:=HCM.q;omega)
         case measure=>simp[F];omega
       ·have hd3:decide ((q:B)<min (x.length:B) (Wh.length:B))=u:=decide_eq_false ah
        have HL:=g h2;clear h2
        go_wp2_with (go_quiet (fail))
        go_roundw
        case rel=>exact END.q _ q (dA fM.q _) (by have:=sj (x:=x) (t:=Wh) (k:=q) (.inr (.inl (by have:=HL.q;omega)));have:=HCM.q;omega)
        case measure=>simp[F];omega
      ·have hd3:decide ((q:B)<min (x.length:B) (Wh.length:B))=u:=decide_eq_false ah
       have HL:=g h1;clear h1
       go_wp2_with (go_quiet (fail))
       go_roundw
       case rel=>exact END.q _ q (dA fM.q _) (by have:=sj (x:=x) (t:=Wh) (k:=q) (.inl (by have:=HL.q;omega));have:=HCM.q;omega)
       case measure=>simp[F];omega
    ·obtain⟨q,hq⟩:∃q:M,q=p+Wh.length:=⟨_,rfl⟩
     have Yi:x=Wh:=by simpa using hxe
     have hqi:(p:B)+(x.length:B)=(q:B):=by rw[Yi];omega
     have CQ:q≤1000000:=by omega
     have ht:=HC.q.to Wh.length rfl hTl q hq;have HT2:=g ht.1;have j6:=g ((Mv.of_below (R:=R) (c:=c) bK.q).trans ht.2);have Nt:Hid (bZ ws l= .ok (k,l.drop Wh.length)):=g (by
      unfold bZ;rw[←HT.q,←HWH.q,findIdx?_take (fun s=>s==Wh) ws k (U.2 (fun y hy=>by simpa using jf.q y hy)) x tF.q hxe])
     clear ht hq Yi;go_wp2_with fail;go_ret;show kM R s c n w _ _ _ _;rw[HX.q,Nt.q];exact⟨rfl,q,HT2.q,j6.q⟩
   ·obtain rfl:k=nn:=by omega
    have hF:∀W,Calls C 164 #[Q J ((p:B)+(m:B)),Q J 220] W (fun e w'=>e= .panicked (lM (p+m) 220)∧w'=W):=fun W=>by
     have:=jT (p+m) 220 W
     rwa[O] at this
    have HF:=fun W=>g (hF W)
    have htk:ws.take k=ws:=V (by rw[HR.q.len];exact Nat.le_refl _);rw[htk] at hm hne;have Nt:Hid (bZ ws l= .error (l.drop m,220)):=g (by
     unfold bZ;rw[←HT.q,←HWH.q,U.2 (fun y hy=>by simpa using hne y hy),←hm])
    have bK:=g hbw;have HC:=g (HH.q.below hbw);have c1:=HC.q.c1;clear hm hne hbw hF htk;go_wp2_with fail;refine(HF _).q.mono ?_;rintro e w4 ⟨rfl,rfl⟩;refine⟨rfl,?_⟩;show kM R s c n w _ _ _ _;rw[HX.q,Nt.q];refine⟨?_,Same.of_below bK.q (fun _ _ h=>h)⟩;rw[show s.length - (l.drop m).length=p+m by rw[List.length_drop];omega]
end Yd
