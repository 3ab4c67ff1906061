import Derived.Test.YtnhnhmeogckgpaaGreatDoorAto
import Derived.Laws.Externs
set_option linter.all false
set_option maxRecDepth 200000
set_option maxHeartbeats 8000000
namespace Yd
open Array renaming getElem?_eq_some_iff→S
open Bool renaming false→u,true→B
open Int renaming natCast_add→N
open List renaming drop_eq_getElem_cons→F,getElem?_eq_getElem→I,take_add_one→K,getElem?_eq_some_iff→L,findIdx?_eq_none_iff→M,take_of_length_le→U,length_take→Z
open Nat renaming zero_le→E
open Option renaming some→J
open Go Go.RowKit Go.Proofs Tryz
open Go.IntKind renaming i64→G
open Go.Value renaming bool→H,int→Q
open RowKit renaming intOf→C
open Tryz renaming underlying9→A,prog→D
open Value renaming int→V
open Yd renaming hid→g
open _root_ renaming Int→z,Nat→O
theorem GJ (q:UInt8→Bool):∀(l:Bs) (k:O) (b:UInt8),(∀x∈l.take k,q x=B)→l[k]?=J b→q b=u→l.takeWhile q=l.take k
 |[],_,_,_,h,_=>by simp at h
 |a::t,0,b,_,h,hb=>by
  obtain rfl:a=b:=by simpa using h
  rw[List.takeWhile_cons,hb];rfl
 |a::t,k+1,b,ha,h,hb=>by
  rw[List.takeWhile_cons,ha a ak,if_pos rfl,List.take_succ_cons,GJ q t k b (fun x hx=>ha x (by simp[hx])) (by simpa using h) hb]
theorem Tv (q:UInt8→Bool) (l:Bs) (h:∀x∈l,q x=B):l.takeWhile q=l:=by
 induction l with
 |nil=>rfl
 |cons a t ih=>rw[List.takeWhile_cons,h a ak,if_pos rfl,ih (fun x hx=>h x (by simp[hx]))]
theorem Ov (b:UInt8):o8 b=((decide (b.toNat=46)||decide (b.toNat=95))||(decide (48≤b.toNat) && decide (b.toNat≤57))||(decide (97≤b.toNat) && decide (b.toNat≤122))||(decide (65≤b.toNat) && decide (b.toNat≤90))):=by
 have e:∀c:UInt8,(b==c)=decide (b.toNat=c.toNat):=fun c=>by
  by_cases h:b=c
  ·simp[h]
  ·rw[beq_eq_false_iff_ne.2 h,decide_eq_false (fun e=>h (UInt8.toNat_inj.1 e))]
 unfold o8;rw[e 46,e 95];rfl
theorem Qv {R p:O} {s l:Bs} {c:bf} {n:aB} (w:World) (h:dG w R s p l c n):
  Calls D 243 #[.pointer (J ⟨R,0,none⟩)] w (bC (.string ⟨(dU l).toArray⟩) w):=by
 have c0:=h.c0;have c1:=h.c1;have hlen:=h.len;have hlim:=h.lim;have hsl:=fun W=>lK A s p ah W
 rw[h.d] at hsl;have hll:l.length≤1000000:=by omega
 clear h hlen hlim;go_enter func243,ntmps243
 go_wp2_with (go_quiet (fail))
 clear hsl c0 c1
 go_loopw [] (fun wr=>∃k:O,k≤l.length∧wr.heap[w.heap.size]?=J (.stringIter ⟨l.toArray⟩ k)∧Below w.heap.size w wr∧∀x∈l.take k,o8 x=B) (fun wr=>l.length - wr.iterPos w.heap.size)
 case atStart=>exact⟨0,E _,World.iter_heap (w.drewN _) ⟨l.toArray⟩ 0,dM (Below.refl _ _) _|>.trans (iU (w.drewN _) ⟨l.toArray⟩),by simp⟩
 case round=>
  obtain⟨k,hk,hit,hbw,hall⟩:=hrel;by_cases hp:k<l.length
  ·obtain⟨b,t,hbt⟩:∃b t,l.drop k=b::t:=⟨_,_,F hp⟩
   have hnx:∀ty,(Instr.next (.pointer (J ⟨w.heap.size,0,none⟩)) B ty).run D wr=_:=fun ty=>Lib.run_next_any_at wr w.heap.size ⟨l.toArray⟩ k ty hit (by rw[fO];exact hp)
   have hwd:=pQ l k;rw[hbt] at hwd;rw[hwd] at hnx;have hkb:l[k]?=J b:=by
    have:=congrArg (fun l=>l[0]?) hbt
    simpa using this
   obtain⟨r,d,hr,hd⟩:∃(r:z) (d:O),r=((Utf8.decode ⟨(b::t).toArray⟩ 0).1:z)∧d=(Utf8.decode ⟨(b::t).toArray⟩ 0).2:=⟨_,_,rfl,rfl⟩;have hbr:(b.toNat<128∧r=b.toNat∧d=1)∨(128≤b.toNat∧128≤r):=by
    rcases Nat.lt_or_ge b.toNat 128 with h1|h1
    ·rw[pY b t h1] at hr hd;exact .inl ⟨h1,hr,hd⟩
    ·have:=(Aa b t h1).1;exact .inr ⟨h1,by omega⟩
   rw[←hr,←hd] at hnx;have hit2:=Lib.iterAt_heap wr w.heap.size ⟨l.toArray⟩ k (k+d) hit;have hbw2:=Lib.below_iterAt hbw (k:=w.heap.size) (Nat.le_refl _) ⟨l.toArray⟩ (k+d);have zk:=g hbr;have qL:=g hall;have LW:=g hkb;have HB2:=g hbw2;have HI2:=g hit2;have HIT:=g hit;have hsh:=fun W=>xY A l k ah W
   have hcl:r=46∨r=95∨(48≤r∧r≤57)∨(97≤r∧r≤122)∨(65≤r∧r≤90)∨r<46∨r=47∨(57<r∧r<65)∨(90<r∧r<95)∨r=96∨122<r:=by omega
   clear hbr hall hkb hbw2 hit2 hbw hwd hr hd hbt hit;have GO:Hid ((r=46∨r=95∨(48≤r∧r≤57)∨(97≤r∧r≤122)∨(65≤r∧r≤90))→∃k':O,k'≤l.length∧(wr.iterAt w.heap.size ⟨l.toArray⟩ (k+d)).heap[w.heap.size]?=J (.stringIter ⟨l.toArray⟩ k')∧Below w.heap.size w (wr.iterAt w.heap.size ⟨l.toArray⟩ (k+d))∧∀x∈l.take k',o8 x=B):=g (fun hr=>by
    rcases zk.q with⟨h1,h2,h3⟩|⟨h1,h2⟩
    ·refine⟨k+d,by omega,HI2.q,HB2.q,fun x hx=>?_⟩
     rw[h3,K,LW.q] at hx;rcases List.mem_append.1 hx with hx|hx
     ·exact qL.q x hx
     ·obtain rfl:x=b:=by simpa using hx
      rw[Ov];simp only[Bool.or_eq_true,Bool.and_eq_true,decide_eq_true_eq];omega
    ·exfalso;omega)
   have ME:Hid ((r=46∨r=95∨(48≤r∧r≤57)∨(97≤r∧r≤122)∨(65≤r∧r≤90))→l.length - (wr.iterAt w.heap.size ⟨l.toArray⟩ (k+d)).iterPos w.heap.size<l.length - wr.iterPos w.heap.size):=g (fun hr=>by
    rcases zk.q with⟨h1,h2,h3⟩|⟨h1,h2⟩
    ·rw[iterPos_of HI2.q,iterPos_of HIT.q];omega
    ·exfalso;omega)
   have ST:Hid (¬(r=46∨r=95∨(48≤r∧r≤57)∨(97≤r∧r≤122)∨(65≤r∧r≤90))→dU l=l.take k):=g (fun hr=>by
    refine GJ o8 l k b qL.q LW.q ?_;rw[Ov];simp only[Bool.or_eq_false_iff,Bool.and_eq_false_iff,decide_eq_false_iff_not];rcases zk.q with⟨h1,h2,h3⟩|⟨h1,h2⟩ <;> omega)
   rcases hcl with h1|h1|⟨h1,h2⟩|⟨h1,h2⟩|⟨h1,h2⟩|h1|h1|⟨h1,h2⟩|⟨h1,h2⟩|h1|h1
   ·subst h1
    go_wp2_with fail;go_roundw
    case rel=>exact GO.q aj
    case measure=>exact ME.q aj
   ·subst h1
    go_wp2_with fail;go_roundw
    case rel=>exact GO.q aj
    case measure=>exact ME.q aj
   ·have e46:(r !=46)=B:=bne_iff_ne.2 ah
    have Ow:(r !=95)=B:=bne_iff_ne.2 ah;have d0:decide (r<48)=u:=decide_eq_false ah;have d1:decide (57<r)=u:=decide_eq_false ah;have d2:decide (r<97)=B:=decide_eq_true ah;have d3:decide (122<r)=u:=decide_eq_false ah;have d4:decide (r<65)=B:=decide_eq_true ah;have d5:decide (90<r)=u:=decide_eq_false ah;go_wp2_with fail;go_roundw
    case rel=>exact GO.q ah
    case measure=>exact ME.q ah
   ·have e46:(r !=46)=B:=bne_iff_ne.2 ah
    have Ow:(r !=95)=B:=bne_iff_ne.2 ah;have d0:decide (r<48)=u:=decide_eq_false ah;have d1:decide (57<r)=B:=decide_eq_true ah;have d2:decide (r<97)=u:=decide_eq_false ah;have d3:decide (122<r)=u:=decide_eq_false ah;have d4:decide (r<65)=u:=decide_eq_false ah;have d5:decide (90<r)=B:=decide_eq_true ah;go_wp2_with fail;go_roundw
    case rel=>exact GO.q ah
    case measure=>exact ME.q ah
   ·have e46:(r !=46)=B:=bne_iff_ne.2 ah
    have Ow:(r !=95)=B:=bne_iff_ne.2 ah;have d0:decide (r<48)=u:=decide_eq_false ah;have d1:decide (57<r)=B:=decide_eq_true ah;have d2:decide (r<97)=B:=decide_eq_true ah;have d3:decide (122<r)=u:=decide_eq_false ah;have d4:decide (r<65)=u:=decide_eq_false ah;have d5:decide (90<r)=u:=decide_eq_false ah;go_wp2_with fail;go_roundw
    case rel=>exact GO.q ah
    case measure=>exact ME.q ah
   ·have e46:(r !=46)=B:=bne_iff_ne.2 ah
    have Ow:(r !=95)=B:=bne_iff_ne.2 ah;have d0:decide (r<48)=B:=decide_eq_true ah;have d1:decide (57<r)=u:=decide_eq_false ah;have d2:decide (r<97)=B:=decide_eq_true ah;have d3:decide (122<r)=u:=decide_eq_false ah;have d4:decide (r<65)=B:=decide_eq_true ah;have d5:decide (90<r)=u:=decide_eq_false ah;go_wp2_with fail;go_ret;exact⟨by rw[ST.q ah];rfl,HB2.q⟩
   ·subst h1
    go_wp2_with fail;go_ret;exact⟨by rw[ST.q aj];rfl,HB2.q⟩
   ·have e46:(r !=46)=B:=bne_iff_ne.2 ah
    have Ow:(r !=95)=B:=bne_iff_ne.2 ah;have d0:decide (r<48)=u:=decide_eq_false ah;have d1:decide (57<r)=B:=decide_eq_true ah;have d2:decide (r<97)=B:=decide_eq_true ah;have d3:decide (122<r)=u:=decide_eq_false ah;have d4:decide (r<65)=B:=decide_eq_true ah;have d5:decide (90<r)=u:=decide_eq_false ah;go_wp2_with fail;go_ret;exact⟨by rw[ST.q ah];rfl,HB2.q⟩
   ·have e46:(r !=46)=B:=bne_iff_ne.2 ah
    have Ow:(r !=95)=B:=bne_iff_ne.2 ah;have d0:decide (r<48)=u:=decide_eq_false ah;have d1:decide (57<r)=B:=decide_eq_true ah;have d2:decide (r<97)=B:=decide_eq_true ah;have d3:decide (122<r)=u:=decide_eq_false ah;have d4:decide (r<65)=u:=decide_eq_false ah;have d5:decide (90<r)=B:=decide_eq_true ah;go_wp2_with fail;go_ret;exact⟨by rw[ST.q ah];rfl,HB2.q⟩
   ·subst h1
    go_wp2_with fail;go_ret;exact⟨by rw[ST.q aj];rfl,HB2.q⟩
   ·have e46:(r !=46)=B:=bne_iff_ne.2 ah
    have Ow:(r !=95)=B:=bne_iff_ne.2 ah;have d0:decide (r<48)=u:=decide_eq_false ah;have d1:decide (57<r)=B:=decide_eq_true ah;have d2:decide (r<97)=u:=decide_eq_false ah;have d3:decide (122<r)=B:=decide_eq_true ah;have d4:decide (r<65)=u:=decide_eq_false ah;have d5:decide (90<r)=B:=decide_eq_true ah;go_wp2_with fail;go_ret;exact⟨by rw[ST.q ah];rfl,HB2.q⟩
  ·have hnx:∀ty,(Instr.next (.pointer (J ⟨w.heap.size,0,none⟩)) B ty).run D wr=_:=fun ty=>Lib.run_next_end_at wr w.heap.size ⟨l.toArray⟩ k ty hit (by rw[fO];exact hp)
   have HX:Hid (dU l=l):=g (Tv o8 l (by rw[U ah] at hall;exact hall));have HB:=g hbw;clear hall hbw;go_wp2_with fail;go_ret;exact⟨by rw[HX.q];rfl,HB.q⟩
theorem Bo (r:z) (w:World):Calls D 262 #[.int .i32 r] w (bC (H (jN r)) w):=by
 by_cases h1:48≤r <;> by_cases h2:r≤57
 all_goals
  go_enter func262,ntmps262;go_wp2_with fail;go_ret;exact⟨by simp[jN,h1,h2],Below.refl _ _⟩
def jl (l:Bs):Bs:=if l.head?=J 45 then(if(l.tail.takeWhile iN).length=0 then [] else l.take ((l.tail.takeWhile iN).length+1)) else l.takeWhile iN
theorem Eu (b:UInt8):iN b=(decide (48≤b.toNat) && decide (b.toNat≤57)):=rfl
def hz (l:Bs):O:=if l.head?=J 45 then 1 else 0
def CW (l:Bs) (k e:O):Prop:=(k=0∧e=0)∨(hz l≤k∧(∀x∈(l.take k).drop (hz l),iN x=B)∧e=(if k=hz l then 0 else k))
theorem Tw {q:UInt8→Bool} {l:Bs} {k:O} (h:∀x∈l.take k,q x=B) (hs:k=l.length∨∃b,l[k]?=J b∧q b=u) (hk:k≤l.length):(l.takeWhile q).length=k∧l.takeWhile q=l.take k:=by
 rcases hs with rfl|⟨b,hb,hq⟩
 ·rw[List.take_length] at h ⊢
  rw[Tv q l h];exact⟨rfl,rfl⟩
 ·rw[GJ q l k b h hb hq]
  exact⟨by rw[Z];omega,rfl⟩
theorem GK {l:Bs} {k e:O} (h:CW l k e) (hk:k≤l.length) (hs:k=l.length∨∃b,l[k]?=J b∧iN b=u∧¬(k=0∧b=45)):jl l=l.take e∧e≤l.length:=by
 unfold jl;by_cases h45:l.head?=J 45
 ·rw[if_pos h45]
  obtain⟨t,rfl⟩:∃t,l=45::t:=by cases l with
   |nil=>simp at h45
   |cons a t=>exact⟨t,by simpa using h45⟩
  have hz1:hz (45::t)=1:=rfl;unfold CW at h;rw[hz1] at h;rcases h with⟨rfl,rfl⟩|⟨h1,h2,h3⟩
  ·exfalso
   rcases hs with h|⟨b,hb,_,hn⟩
   ·simp at h
   ·exact hn ⟨rfl,by simpa using hb.symm⟩
  ·obtain⟨j,rfl⟩:∃j,k=j+1:=⟨k - 1,by omega⟩
   have ht:((45::t:Bs).tail.takeWhile iN).length=j∧_:=Tw (l:=t) (k:=j) (by simpa using h2) (by
    rcases hs with h|⟨b,hb,hq,_⟩
    ·exact .inl (by simpa using h)
    ·exact .inr ⟨b,by simpa using hb,hq⟩) (by simpa using hk)
   rw[ht.1];by_cases hj:j=0
   ·subst hj;rw[if_pos rfl,h3,if_pos rfl];exact⟨rfl,E _⟩
   ·rw[if_neg hj,h3,if_neg ah];exact⟨rfl,hk⟩
 ·rw[if_neg h45]
  have hz0:hz l=0:=if_neg h45;unfold CW at h;rw[hz0] at h;have he:e=k∧∀x∈l.take k,iN x=B:=by
   rcases h with⟨rfl,rfl⟩|⟨_,h2,h3⟩
   ·exact⟨rfl,by simp⟩
   ·exact⟨by rw[h3];split <;> omega,by simpa using h2⟩
  rw[he.1];exact⟨(Tw he.2 (by
   rcases hs with h|⟨b,hb,hq,_⟩
   ·exact .inl h
   ·exact .inr ⟨b,hb,hq⟩) hk).2,hk⟩
theorem afd {l:Bs} {k e:O} {b:UInt8} (h:CW l k e) (hb:l[k]?=J b) (hd:iN b=B):CW l (k+1) (k+1):=by
 have hzl:hz l≤k:=by
  rcases h with⟨rfl,_⟩|⟨h1,_⟩
  ·unfold hz
   split
   ·rename_i h45
    exfalso
    cases l with
    |nil=>simp at hb
    |cons a t=>
     obtain rfl:a=b:=by simpa using hb
     obtain rfl:a=45:=by simpa using h45
     exact absurd hd aj
   ·omega
  ·exact h1
 refine .inr ⟨by omega,fun x hx=>?_,by rw[if_neg ah]⟩;rw[K,hb,List.drop_append_of_le_length (by rw[Z];have:=(L.1 hb).1;omega)] at hx;rcases List.mem_append.1 hx with hx|hx
 ·rcases h with⟨rfl,_⟩|⟨_,h2,_⟩
  ·simp at hx
  ·exact h2 x hx
 ·obtain rfl:x=b:=by simpa using hx
  exact hd
theorem Zy {l:Bs} {e:O} (h:CW l 0 e) (hb:l[0]?=J 45):e=0∧CW l 1 0:=by
 have h45:l.head?=J 45:=by cases l with
  |nil=>simp at hb
  |cons a t=>simpa using hb
 have hz1:hz l=1:=if_pos h45;refine⟨?_,.inr ⟨by omega,fun x hx=>?_,by rw[hz1,if_pos rfl]⟩⟩
 ·rcases h with⟨_,h⟩|⟨h1,_⟩
  ·exact h
  ·omega
 ·rw[hz1] at hx
  cases l with
  |nil=>simp at hx
  |cons a t=>simp at hx
theorem Gt (l:Bs) (hlim:l.length≤1000000) (w:World):Calls D 246 #[.string ⟨l.toArray⟩] w (uF (.string ⟨(jl l).toArray⟩) (.string ⟨(l.drop (jl l).length).toArray⟩) w):=by
 obtain⟨X,hX⟩:∃X,X=jl l:=⟨_,rfl⟩;rw[←hX];have HX:=g hX;have hbz:=fO l;clear hX;go_enter func246,ntmps246;go_wp2_with fail
 go_step3
 go_wp2_with fail
 go_step3
 go_wp2_with fail
 go_loopw [4] (fun v wr=>∃k e:O,v= Q G e∧k≤l.length∧e≤l.length∧wr.heap[w.heap.size]?=J (.stringIter ⟨l.toArray⟩ k)∧Below w.heap.size w wr∧CW l k e) (fun _ wr=>l.length - wr.iterPos w.heap.size)
 case atStart=>exact⟨0,0,rfl,E _,E _,World.iter_heap w ⟨l.toArray⟩ 0,iU w ⟨l.toArray⟩,.inl ⟨rfl,rfl⟩⟩
 case round=>
  obtain⟨k,e,rfl,hk,akp,hit,hbw,hat⟩:=hrel;by_cases hp:k<l.length
  ·obtain⟨b,t,hbt⟩:∃b t,l.drop k=b::t:=⟨_,_,F hp⟩
   have hnx:∀ty,(Instr.next (.pointer (J ⟨w.heap.size,0,none⟩)) B ty).run D wr=_:=fun ty=>Lib.run_next_any_at wr w.heap.size ⟨l.toArray⟩ k ty hit (by rw[fO];exact hp)
   have hwd:=pQ l k;rw[hbt] at hwd;rw[hwd] at hnx;have hkb:l[k]?=J b:=by
    have:=congrArg (fun l=>l[0]?) hbt
    simpa using this
   obtain⟨r,d,hr,hd⟩:∃(r:z) (d:O),r=((Utf8.decode ⟨(b::t).toArray⟩ 0).1:z)∧d=(Utf8.decode ⟨(b::t).toArray⟩ 0).2:=⟨_,_,rfl,rfl⟩;have hbr:(b.toNat<128∧r=b.toNat∧d=1)∨(128≤b.toNat∧128≤r):=by
    rcases Nat.lt_or_ge b.toNat 128 with h1|h1
    ·rw[pY b t h1] at hr hd;exact .inl ⟨h1,hr,hd⟩
    ·have:=(Aa b t h1).1;exact .inr ⟨h1,by omega⟩
   rw[←hr,←hd] at hnx;have hit2:=Lib.iterAt_heap wr w.heap.size ⟨l.toArray⟩ k (k+d) hit;have hbw2:=Lib.below_iterAt hbw (k:=w.heap.size) (Nat.le_refl _) ⟨l.toArray⟩ (k+d);have zk:=g hbr;have HAT:=g hat;have LW:=g hkb;have HB2:=g hbw2;have HI2:=g hit2;have HIT:=g hit;have hDB:iN b=jN r:=by
    rw[Eu];unfold jN;rcases hbr with⟨h1,h2,h3⟩|⟨h1,h2⟩
    ·rw[h2];congr 1 <;> exact decide_eq_decide.2 ah
    ·rw[decide_eq_false (show ¬b.toNat≤57 by omega),decide_eq_false (show ¬r≤57 by omega),Bool.and_false,Bool.and_false]
   have HDB:=g hDB;clear hbr hat hkb hbw2 hit2 hbw hwd hr hd hbt hit hDB
   cases iD:jN r
   ·by_cases hsg:k=0∧r=45
    ·obtain⟨rfl,rfl⟩:=hsg
     have Vd:b=45∧d=1:=by
      rcases zk.q with⟨h1,h2,h3⟩|⟨h1,h2⟩
      ·exact⟨UInt8.toNat_inj.1 (by show b.toNat=45;omega),h3⟩
      ·exfalso;omega
     obtain⟨rfl,rfl⟩:=Vd;obtain⟨h0,h1⟩:=Zy HAT.q LW.q;have H1:=g h1;have HI3:Hid ((wr.iterAt w.heap.size ⟨l.toArray⟩ (0+1)).heap[w.heap.size]?=J (.stringIter ⟨l.toArray⟩ 1)):=HI2;clear h1
     go_wp2_with (first|(go_at_call 262;refine(Bo _ _).mono ?_;rintro e w3 ⟨rfl,hb3⟩;rw[iD];have HB3:=g (HB2.q.bD hb3);have HI4:=g ((hb3.block w.heap.size (by have:=(S.1 HI2.q).1;exact this)).trans HI3.q);clear hb3)|fail)
     go_roundw
     case rel=>exact⟨1,0,rfl,by omega,E _,HI4.q,HB3.q,H1.q⟩
     case measure=>rw[iterPos_of HI4.q,iterPos_of HIT.q];omega
    ·by_cases hk0:k=0
     ·subst hk0
      rw[Nat.zero_add] at HB2;have akq:(r !=45)=B:=bne_iff_ne.2 (fun e=>hsg ⟨rfl,e⟩);have HSG:=g hsg;clear hsg;have HE:=g (GK HAT.q ah (.inr ⟨b,LW.q,by rw[HDB.q,iD],fun e=>HSG.q ⟨rfl,by rcases zk.q with⟨h1,h2,h3⟩|⟨h1,h2⟩ <;> (rw[e.2] at h1;simp at h1);rw[h2,e.2];rfl⟩⟩));have hsh:=fun W=>xY A l e HE.q.2 W
      have hsl:=fun W=>lK A l e HE.q.2 W
      have hel:(l.take e).length=e:=by rw[Z];have:=HE.q.2;omega
      have Tx:=g hel;clear hel
      go_wp2_with (first|(go_at_call 262;refine(Bo _ _).mono ?_;rintro e w3 ⟨rfl,hb3⟩;rw[iD];have HB3:=g (HB2.q.bD hb3);clear hb3)|go_quiet (fail))
      change bodyPost _ _ _ Exit.ret _ _
      go_ret2
      exact⟨by rw[HX.q,HE.q.1,Tx.q];rfl,dM HB3.q _⟩
     ·have hk1:decide ((0:z)<(k:z))=B:=decide_eq_true ah
      have hk2:decide (0<k)=B:=decide_eq_true ah;have Oa:=g hk0;clear hk0 hsg;have HE:=g (GK HAT.q ah (.inr ⟨b,LW.q,by rw[HDB.q,iD],fun e=>Oa.q e.1⟩));have hsh:=fun W=>xY A l e HE.q.2 W
      have hsl:=fun W=>lK A l e HE.q.2 W
      have hel:(l.take e).length=e:=by rw[Z];have:=HE.q.2;omega
      have Tx:=g hel;clear hel
      go_wp2_with (first|(go_at_call 262;refine(Bo _ _).mono ?_;rintro e w3 ⟨rfl,hb3⟩;rw[iD];have HB3:=g (HB2.q.bD hb3);clear hb3)|go_quiet (fail))
      change bodyPost _ _ _ Exit.ret _ _
      go_ret2
      exact⟨by rw[HX.q,HE.q.1,Tx.q];rfl,dM HB3.q _⟩
   ·have hb1:d=1:=by
     rcases zk.q with⟨h1,h2,h3⟩|⟨h1,h2⟩
     ·exact h3
     ·simp[jN] at iD;omega
    subst hb1;have H1:=g (afd HAT.q LW.q (by rw[HDB.q,iD]))
    go_wp2_with (first|(go_at_call 262;refine(Bo _ _).mono ?_;rintro e w3 ⟨rfl,hb3⟩;rw[iD];have HB3:=g (HB2.q.bD hb3);have HI4:=g ((hb3.block w.heap.size (by have:=(S.1 HI2.q).1;exact this)).trans HI2.q);clear hb3)|fail)
    go_roundw
    case rel=>exact⟨k+1,k+1,by go_num,by omega,by omega,HI4.q,HB3.q,H1.q⟩
    case measure=>rw[iterPos_of HI4.q,iterPos_of HIT.q];omega
  ·have hnx:∀ty,(Instr.next (.pointer (J ⟨w.heap.size,0,none⟩)) B ty).run D wr=_:=fun ty=>Lib.run_next_end_at wr w.heap.size ⟨l.toArray⟩ k ty hit (by rw[fO];exact hp)
   have HE:=g (GK hat hk (.inl ah));have hsh:=fun W=>xY A l e HE.q.2 W
   have hsl:=fun W=>lK A l e HE.q.2 W
   have hel:(l.take e).length=e:=by rw[Z];have:=HE.q.2;omega
   have Tx:=g hel;have HB:=g hbw;clear hel hbw hat
   go_wp2_with (go_quiet (fail))
   change bodyPost _ _ _ Exit.ret _ _
   go_ret2
   exact⟨by rw[HX.q,HE.q.1,Tx.q];rfl,dM HB.q _⟩
theorem Zz (i:O) (hi:i≤9) (W:World):(callFunc 266 #[.int .u64 0,.int .u64 (i:z),.int .u64 0]).run D W= .ok (.value (.tuple #[.int .u64 (i:z),.int .u64 0])) W:=by
 rw[run_callFunc_extern (e:=add64Entry) func266 au au au au,run_add64 0 i 0 ah ah ah ah];rw[show(0+(i:z)+0) % 18446744073709551616=(i:z) by omega,show(0+(i:z)+0) / 18446744073709551616=0 by omega];rfl
theorem ZA (i:O) (hi:i≤9) (w:World):Calls D 251 #[.agg #[.int .u64 0,H u,H u],.int .i32 ((48+i:O):z)] w (bC (.agg #[.int .u64 i,H u,H u]) w):=by
 have HM:=fun W=>g (Tryz.bits_Mul64 0 10 aj aj W)
 have HB:=g (av (av (Below.refl w.heap.size w) (.cells #[.int .u64 0,H u,H u] 289)) (.cells #[.int .u64 0,H u,H u] 289));have hA:=fun W=>Zz i hi W
 have HX:=g ((Bx.new w #[.int .u64 0,H u,H u] 289).alloc (.cells #[.int .u64 0,H u,H u] 289));rcases(by omega:i=0∨i=1∨i=2∨i=3∨i=4∨i=5∨i=6∨i=7∨i=8∨i=9) with rfl|rfl|rfl|rfl|rfl|rfl|rfl|rfl|rfl|rfl
 all_goals
  simp only[Int.cast_ofNat_Int] at hA;go_enter func251,ntmps251;go_wp2_with fail;refine(HM _).q.mono ?_;rintro e w1 ⟨rfl,rfl⟩;go_wp2_with fail;refine bodyPost_ret (v:=_) ?_ rfl ⟨rfl,av (av (Below.refl _ _) _) _⟩;simp[results,results251,go_sem]
theorem Tz (i:O) (hi:i≤9) (w:World):Calls D 252 #[.agg #[.int .u64 i,H u,H u]] w (uF (Q G i) (H B) w):=by
 rcases(by omega:i=0∨i=1∨i=2∨i=3∨i=4∨i=5∨i=6∨i=7∨i=8∨i=9) with rfl|rfl|rfl|rfl|rfl|rfl|rfl|rfl|rfl|rfl
 all_goals
  go_enter func252,ntmps252;go_wp2_with fail
  go_ret2
  exact⟨rfl,av (Below.refl _ _) _⟩
theorem Wy (b:UInt8) (h:iN b=B) (h45:b≠45):jl [b]=[b]:=by
 unfold jl;rw[if_neg (by simp[h45])];simp[h]
theorem Yr (b:UInt8) (h48:48≤b.toNat) (h57:b.toNat≤57) (w:World):Calls D 229 #[.string ⟨#[b]⟩] w (uF (Q G ((b.toNat - 48:O):z)) (Q G 0) w):=by
 obtain⟨i,hi⟩:∃i,i=b.toNat - 48:=⟨_,rfl⟩;rw[←hi];have hb:48+i=b.toNat:=by omega
 have HH:=fun W=>g (Gt [b] ak W)
 rw[Wy b (by rw[Eu];simp[h48,h57]) (fun e=>by rw[e] at h48;exact absurd h48 aj)] at HH;have HW:=fun W=>g (ZA i ah W)
 have HN:=fun W=>g (Tz i ah W)
 rw[hb] at HW;have hi0:∀W,(Instr.index 9 (.string ⟨#[b]⟩) (Q G 0)).run D W= .ok (.int .u8 (b.toNat:z)) W:=fun W=>eZ A [b] 0 b rfl W
 have e45:((b.toNat:z)==45)=u:=beq_eq_false_iff_ne.2 ah;have hempty:(([b]:Bs)==([]:Bs))=u:=rfl;have HD:=g (pY b [] ah);clear h48 h57 hi hb
 cases h0:((b.toNat:z)==48)
 all_goals
  go_enter func229,ntmps229;go_wp2_with fail;refine(HH _).q.mono ?_;rintro e w1 ⟨rfl,hb1⟩;have HB1:=g ((av hb1 (.cells #[.int .u64 0,H u,H u] 289)).trans (iU _ ⟨#[b]⟩|>.mono (by have:=hb1.size;simp;omega)));have bE:=g (((Bx.new w1 #[.int .u64 0,H u,H u] 289)).keep (iU _ ⟨#[b]⟩));have HZ:Hid (w.heap.size≤w1.heap.size):=g hb1.size;clear hb1;go_wp2_with fail
  go_loopw [] (fun wr=>∃(W:World) (k v:O),W=wr∧((k=0∧v=0)∨(k=1∧v=i))∧wr.heap[w1.heap.size+1]?=J (.stringIter ⟨#[b]⟩ k)∧Bx wr w1.heap.size #[.int .u64 v,H u,H u]∧Below w.heap.size w wr) (fun wr=>2 - wr.iterPos (w1.heap.size+1))
  case atStart=>exact⟨_,0,0,rfl,.inl ⟨rfl,rfl⟩,(by have:=World.iter_heap (w1.alloc (.cells #[.int .u64 0,H u,H u] 289)) ⟨#[b]⟩ 0;rwa[World.size_alloc] at this),bE.q,HB1.q⟩
  case round=>
   obtain⟨W,k,v,rfl,hkv,hit,hbx,hbw⟩:=hrel;have HIT:=g hit;have gL:=g hbx;have bP:=g hbw;have hcx:=hbx.1;have hfx:=hbx.2.1;clear hbx hbw;rcases hkv with⟨rfl,rfl⟩|⟨rfl,rfl⟩
   ·have hnx:∀ty,(Instr.next (.pointer (J ⟨w1.heap.size+1,0,none⟩)) B ty).run D W= .ok (.tuple #[H B,Q G 0,.int .i32 (b.toNat:z)]) (W.iterAt (w1.heap.size+1) ⟨#[b]⟩ 1):=fun ty=>by
     have h:=Lib.run_next_any_at (P:=D) W (w1.heap.size+1) ⟨#[b]⟩ 0 ty hit (by simp[ByteArray.size]);rw[show Utf8.decode ⟨#[b]⟩ 0=(b.toNat,1) from HD.q] at h;exact h
    have HI2:=g (Lib.iterAt_heap W (w1.heap.size+1) ⟨#[b]⟩ 0 1 hit);have HB2:=g (Lib.below_iterAt bP.q (k:=w1.heap.size+1) (by have:=HZ.q;omega) ⟨#[b]⟩ 1);clear hit;have hbv:=gL.q.of_eq (Y:=W.iterAt (w1.heap.size+1) ⟨#[b]⟩ 1) (by rw[Lib.iterAt_size];exact Nat.le_refl _) (Lib.iterAt_other W _ _ _ _ ah);have hcv:=hbv.1;have Iw:=g hbv;clear hbv hcx hfx;go_wp2_with fail;refine(HW _).q.mono ?_;rintro e w4 ⟨rfl,hb4⟩;have dL:=g (HB2.q.bD hb4);have hb5:=Iw.q.keep hb4;have dS:=g hb5;have vg:=hb5.1;have Xw:=hb5.2.1;have HI4:=g ((hb4.block (w1.heap.size+1) (S.1 HI2.q).1).trans HI2.q);clear hb4 hb5 hcv;go_wp2_with fail;have hz:Same (fun j=>j≠w1.heap.size) w4 (((w4.setCell ⟨w1.heap.size,0,none⟩ (.int .u64 i)).setCell ⟨w1.heap.size,1,none⟩ (H u)).setCell ⟨w1.heap.size,2,none⟩ (H u)):=(((Same.refl' w4).setTail (fun h=>h rfl)).setTail (fun h=>h rfl)).setTail (fun h=>h rfl);have HI5:=g ((hz.block (w1.heap.size+1) ah (S.1 HI4.q).1).trans HI4.q);have HZ5:=g (hz.below dL.q (fun j hj=>by have:=HZ.q;omega) dL.q.size);clear hz;go_roundw
    case rel=>exact⟨_,1,i,rfl,.inr ⟨rfl,rfl⟩,HI5.q,((dS.q.aU 0 ak (.int .u64 i)).aU 1 ak (H u)).aU 2 ak (H u),HZ5.q⟩
    case measure=>rw[iterPos_of HI5.q,iterPos_of HIT.q];omega
   ·have hnx:∀ty,(Instr.next (.pointer (J ⟨w1.heap.size+1,0,none⟩)) B ty).run D W=_:=fun ty=>Lib.run_next_end_at W (w1.heap.size+1) ⟨#[b]⟩ 1 ty hit (by simp[ByteArray.size])
    clear hit;go_wp2_with fail;refine(HN _).q.mono ?_;rintro e w3 ⟨rfl,hb3⟩;have HB3:=g (bP.q.bD hb3);clear hb3;go_wp2_with fail
    go_ret2
    exact⟨rfl,HB3.q⟩
theorem CX {x t:Bs} {k:O} {a:UInt8} (h1:x[k]?=J a) (h2:t[k]?=J a):gD (x.drop k) (t.drop k)=gD (x.drop (k+1)) (t.drop (k+1))+1:=by
 obtain⟨l1,e1⟩:=L.1 h1;obtain⟨l2,e2⟩:=L.1 h2;rw[F l1,F l2,e1,e2];simp[gD]
theorem nL {x t:Bs} {k:O} (h:x.length≤k∨t.length≤k∨∃a b,x[k]?=J a∧t[k]?=J b∧a≠b):gD (x.drop k) (t.drop k)=0:=by
 rcases h with h|h|⟨a,b,h1,h2,h3⟩
 ·rw[List.drop_eq_nil_of_le h];simp[gD]
 ·rw[List.drop_eq_nil_of_le h];cases x.drop k <;> simp[gD]
 ·obtain⟨l1,e1⟩:=L.1 h1
  obtain⟨l2,e2⟩:=L.1 h2;rw[F l1,F l2,e1,e2];simp[gD,h3]
theorem ZB (x t:Bs):gD x t≤t.length:=by
 induction x generalizing t with
 |nil=>simp[gD]
 |cons a x ih=>
  cases t with
  |nil=>simp[gD]
  |cons b t=>
   simp only[gD]
   split
   ·have:=ih t;simp;omega
   ·simp
theorem ES (ws:List Bs) (s t:Bs):tq (ws++[s]) t=max (tq ws t) (gD s t):=by simp[tq]
theorem LX (ws:List Bs) (t:Bs):tq ws t≤t.length:=by
 have:∀(ws:List Bs) (m:O),m≤t.length→ws.foldl (fun m s=>max m (gD s t)) m≤t.length:=by
  intro ws
  induction ws with
  |nil=>intro m hm;exact hm
  |cons s ws ih=>intro m hm;exact ih (max m (gD s t)) (Nat.max_le.2 ⟨hm,ZB s t⟩)
 exact this ws 0 (E _)
theorem Gu {R p:O} {s l:Bs} {c:bf} {n:aB} (w:World) (h:dG w R s p l c n) (a:Option Addr) (nn cc:O) (ws:List Bs) (hr:Row w 1 encStr a nn cc ws) (hnn:nn≤100) (hw:∀x∈ws,x.length≤100) (rP:∀x∈ws,(128:UInt8)∉x):
  Calls D 217 #[.pointer (J ⟨R,0,none⟩),.slice a nn cc] w (kW R s c n w (fun i:O=> Q G i) (dH ws l)):=by
 have HS:=g (Qv w h);obtain⟨X,hX⟩:∃X,X=dH ws l:=⟨_,rfl⟩;rw[←hX];obtain⟨T,hT⟩:∃T,T=dU l:=⟨_,rfl⟩;rw[←hT] at HS;obtain⟨Wh,hWh⟩:∃Wh,Wh=nA l:=⟨_,rfl⟩;have hTl:T.length≤l.length:=by rw[hT];have:=lI o8 l;unfold dU;omega
 have hcs:(l.drop T.length=[]∧Wh=T)∨(∃b t,l.drop T.length=b::t∧b.toNat<128∧Wh=T)∨(∃b t,l.drop T.length=b::t∧128≤b.toNat∧Wh=T++[128]):=by
  unfold nA at hWh;rw[←hT] at hWh
  cases hd:l.drop T.length with
  |nil=>rw[hd] at hWh;exact .inl ⟨rfl,hWh⟩
  |cons b t=>
   rw[hd] at hWh;simp only[List.head?_cons] at hWh;by_cases h1:(128:UInt8)≤b
   ·rw[if_pos h1] at hWh;exact .inr (.inr ⟨b,t,rfl,h1,hWh⟩)
   ·rw[if_neg h1] at hWh;exact .inr (.inl ⟨b,t,rfl,Nat.lt_of_not_le h1,hWh⟩)
 have hlen:=h.len;have hlim:=h.lim;have HX:=g hX;have HT:=g hT;have TA:=g hWh;have HH:=g h;have HR:=g hr;have HW:=g hw;have HWA:=g rP;have hz:=fO s;have hzT:=fO T;clear hX hT hWh h hr hw rP;rcases hcs with⟨hd,LY⟩|⟨b,t,hd,hb,LY⟩|⟨b,t,hd,hb,LY⟩
 ·have hend:p+T.length=s.length:=by
   have:=congrArg List.length hd;simp at this;omega
  subst LY;have hd1:decide ((p:z)+(Wh.length:z)<(s.length:z))=u:=decide_eq_false ah;clear hd;go_enter func217,ntmps217;go_wp2_with fail;refine HS.q.mono ?_;rintro e w1 ⟨rfl,hb1⟩;have H1:=g (HH.q.below hb1);have HB1:=g hb1;have c0:=H1.q.c0;have c1:=H1.q.c1;clear hb1
  go_wp2_with (go_quiet (fail))
  clear hd1 c0 c1
  go_loopw [8,47] (fun f i wr=>∃k m:O,k≤nn∧i= Q G k∧f= Q G m∧m=tq (ws.take k) Wh∧(∀x∈ws.take k,x≠Wh)∧Below w.heap.size w wr) (fun _ i _=>nn - (C i).toNat)
  case atStart=>exact⟨0,0,E _,rfl,rfl,rfl,by simp,dM HB1.q _⟩
  case round=>
   obtain⟨k,m,hk,rfl,rfl,hm,hne,hbw⟩:=hrel;have hmt:m≤Wh.length:=by rw[hm];exact LX _ _
   have hml:m≤1000000:=by omega
   by_cases hlt:k<nn
   ·obtain⟨x,b',o,hx,rfl,hc⟩:=(HR.q.below hbw rfl).at_ hlt
    have hc0:=hc 0 _ rfl;simp only[Nat.mul_one,Nat.add_zero] at hc0;have hxw:x∈ws:=List.mem_of_getElem? hx;have hxl:=HW.q x hxw;have bP:=g hbw;have HM:=g hm;have jv:=g hne;have qQ:=g hx;have Iu:=g hxw;have HC:=g (HH.q.below hbw);have c1:=HC.q.c1;have z1:=f1 HC.q 1;clear hc hbw hm hne hx hxw
    cases hxe:x==Wh
    ·clear c1 z1
     have END:Hid (∀(W':World) (q:O),Below w.heap.size w W'→gD x Wh=q→∃k' m':O,k'≤nn∧V G ((k:z)+1)= Q G k'∧V G (max (m:z) (q:z))= Q G m'∧m'=tq (ws.take k') Wh∧(∀y∈ws.take k',y≠Wh)∧Below w.heap.size w W'):=g (fun W' q hb hq=>
      ⟨k+1,max m q,by omega,by rw[N];rfl,congrArg (V G) ah,by rw[K,qQ.q,Option.toList_some,ES,hq,←HM.q],fun y hy=>by
       rw[K,qQ.q] at hy;rcases List.mem_append.1 hy with hy|hy
       ·exact jv.q y hy
       ·obtain rfl:y=x:=by simpa using hy
        exact fun e=>by rw[e] at hxe;simp at hxe,hb⟩)
     go_wp2_with fail
     go_loopw [11] (fun j wx=>∃W,W=wx∧∃q:O,j= Q G q∧q≤Wh.length∧q≤x.length∧gD (x.drop q) (Wh.drop q)+q=gD x Wh∧Below w.heap.size w W) (fun j _=>Wh.length - (C j).toNat)
     case atStart=>exact⟨_,rfl,0,rfl,E _,E _,by simp,bP.q⟩
     case round=>
      obtain⟨W,rfl,q,rfl,hqT,hqx,hcm,hbx⟩:=hrel;have gL:=g hbx;have HCM:=g hcm;clear hbx hcm;by_cases h1:q<x.length
      ·by_cases h2:q<Wh.length
       ·have hd3:decide ((q:z)<min (x.length:z) (Wh.length:z))=B:=decide_eq_true ah
        obtain⟨a1,ha1⟩:∃a1,x[q]?=J a1:=⟨_,I h1⟩;obtain⟨a2,ha2⟩:∃a2,Wh[q]?=J a2:=⟨_,I h2⟩;have hi1:=fun W=>eZ A x q a1 ha1 W
        have hi2:=fun W=>eZ A Wh q a2 ha2 W
        have HA1:=g ha1;have HA2:=g ha2;have HL:=g (⟨h1,h2⟩:_∧_);clear ha1 ha2 h1 h2;by_cases he:a1=a2
        ·have hb:((a1.toNat:z)==(a2.toNat:z))=B:=by simp[he]
         have HE:=g he;clear he
         go_wp2_with (go_quiet (fail))
         go_roundw
         case rel=>exact⟨_,rfl,q+1,by go_num,HL.q.2,HL.q.1,by have:=CX HA1.q (HE.q▸HA2.q);have:=HCM.q;omega,dM gL.q _⟩
         case measure=>have:=HL.q.2;simp[C];omega
        ·have hb:((a1.toNat:z)==(a2.toNat:z))=u:=beq_eq_false_iff_ne.2 (fun e=>he (UInt8.toNat_inj.1 ah))
         have HE:=g he;clear he
         go_wp2_with (go_quiet (fail))
         go_roundw
         case rel=>exact END.q _ q (dM gL.q _) (by have:=nL (.inr (.inr ⟨a1,a2,HA1.q,HA2.q,HE.q⟩));have:=HCM.q;omega)
         case measure=>simp[C];omega
       ·have hd3:decide ((q:z)<min (x.length:z) (Wh.length:z))=u:=decide_eq_false ah
        have HL:=g h2;clear h2
        go_wp2_with (go_quiet (fail))
        go_roundw
        case rel=>exact END.q _ q (dM gL.q _) (by have:=nL (x:=x) (t:=Wh) (k:=q) (.inr (.inl (by have:=HL.q;omega)));have:=HCM.q;omega)
        case measure=>simp[C];omega
      ·have hd3:decide ((q:z)<min (x.length:z) (Wh.length:z))=u:=decide_eq_false ah
       have HL:=g h1;clear h1
       go_wp2_with (go_quiet (fail))
       go_roundw
       case rel=>exact END.q _ q (dM gL.q _) (by have:=nL (x:=x) (t:=Wh) (k:=q) (.inl (by have:=HL.q;omega));have:=HCM.q;omega)
       case measure=>simp[C];omega
    ·obtain⟨q,hq⟩:∃q:O,q=p+Wh.length:=⟨_,rfl⟩
     have LZ:x=Wh:=by simpa using hxe
     have hqi:(p:z)+(x.length:z)=(q:z):=by rw[LZ];omega
     have Br:q≤1000000:=by omega
     have ht:=HC.q.to Wh.length rfl hTl q hq;have HT2:=g ht.1;have iq:=g ((Mv.of_below (R:=R) (c:=c) bP.q).trans ht.2);have Ec:Hid (dH ws l= .ok (k,l.drop Wh.length)):=g (by
      unfold dH;rw[←HT.q,←TA.q,findIdx?_take (fun s=>s==Wh) ws k (M.2 (fun y hy=>by simpa using jv.q y hy)) x qQ.q hxe])
     clear ht hq LZ;go_wp2_with fail;go_ret;show kW R s c n w _ _ _ _;rw[HX.q,Ec.q];exact⟨rfl,q,HT2.q,iq.q⟩
   ·obtain rfl:k=nn:=by omega
    have hF:∀W,Calls D 164 #[Q G ((p:z)+(m:z)),Q G 220] W (fun e w'=>e= .panicked (kJ (p+m) 220)∧w'=W):=fun W=>by
     have:=fA (p+m) 220 W
     rwa[N] at this
    have HF:=fun W=>g (hF W)
    have htk:ws.take k=ws:=U (by rw[HR.q.len];exact Nat.le_refl _);rw[htk] at hm hne;have Ec:Hid (dH ws l= .error (l.drop m,220)):=g (by
     unfold dH;rw[←HT.q,←TA.q,M.2 (fun y hy=>by simpa using hne y hy),←hm])
    have bP:=g hbw;have HC:=g (HH.q.below hbw);have c1:=HC.q.c1;clear hm hne hbw hF htk;go_wp2_with fail;refine(HF _).q.mono ?_;rintro e w4 ⟨rfl,rfl⟩;refine⟨rfl,?_⟩;show kW R s c n w _ _ _ _;rw[HX.q,Ec.q];refine⟨?_,Same.of_below bP.q (fun _ _ h=>h)⟩;rw[show s.length - (l.drop m).length=p+m by rw[List.length_drop];omega]
 ·have hend:p+T.length<s.length:=by
   have:=congrArg List.length hd;simp at this;omega
  subst LY;have hd1:decide ((p:z)+(Wh.length:z)<(s.length:z))=B:=decide_eq_true ah;have hsb:s[p+Wh.length]?=J b:=by
   have:=congrArg (fun l=>l[0]?) hd;rw[←HH.q.d] at this
   simpa using this
  have hix:=fun W=>eZ A s (p+Wh.length) b hsb W
  rw[N] at hix;have hb1':decide ((128:z)≤(b.toNat:z))=u:=decide_eq_false ah;clear hd hsb;go_enter func217,ntmps217;go_wp2_with fail;refine HS.q.mono ?_;rintro e w1 ⟨rfl,hb1⟩;have H1:=g (HH.q.below hb1);have HB1:=g hb1;have c0:=H1.q.c0;have c1:=H1.q.c1;clear hb1
  go_wp2_with (go_quiet (fail))
  clear hd1 c0 c1
  go_loopw [8,47] (fun f i wr=>∃k m:O,k≤nn∧i= Q G k∧f= Q G m∧m=tq (ws.take k) Wh∧(∀x∈ws.take k,x≠Wh)∧Below w.heap.size w wr) (fun _ i _=>nn - (C i).toNat)
  case atStart=>exact⟨0,0,E _,rfl,rfl,rfl,by simp,dM HB1.q _⟩
  case round=>
   obtain⟨k,m,hk,rfl,rfl,hm,hne,hbw⟩:=hrel;have hmt:m≤Wh.length:=by rw[hm];exact LX _ _
   have hml:m≤1000000:=by omega
   by_cases hlt:k<nn
   ·obtain⟨x,b',o,hx,rfl,hc⟩:=(HR.q.below hbw rfl).at_ hlt
    have hc0:=hc 0 _ rfl;simp only[Nat.mul_one,Nat.add_zero] at hc0;have hxw:x∈ws:=List.mem_of_getElem? hx;have hxl:=HW.q x hxw;have bP:=g hbw;have HM:=g hm;have jv:=g hne;have qQ:=g hx;have Iu:=g hxw;have HC:=g (HH.q.below hbw);have c1:=HC.q.c1;have z1:=f1 HC.q 1;clear hc hbw hm hne hx hxw
    cases hxe:x==Wh
    ·clear c1 z1
     have END:Hid (∀(W':World) (q:O),Below w.heap.size w W'→gD x Wh=q→∃k' m':O,k'≤nn∧V G ((k:z)+1)= Q G k'∧V G (max (m:z) (q:z))= Q G m'∧m'=tq (ws.take k') Wh∧(∀y∈ws.take k',y≠Wh)∧Below w.heap.size w W'):=g (fun W' q hb hq=>
      ⟨k+1,max m q,by omega,by rw[N];rfl,congrArg (V G) ah,by rw[K,qQ.q,Option.toList_some,ES,hq,←HM.q],fun y hy=>by
       rw[K,qQ.q] at hy;rcases List.mem_append.1 hy with hy|hy
       ·exact jv.q y hy
       ·obtain rfl:y=x:=by simpa using hy
        exact fun e=>by rw[e] at hxe;simp at hxe,hb⟩)
     go_wp2_with fail
     go_loopw [11] (fun j wx=>∃W,W=wx∧∃q:O,j= Q G q∧q≤Wh.length∧q≤x.length∧gD (x.drop q) (Wh.drop q)+q=gD x Wh∧Below w.heap.size w W) (fun j _=>Wh.length - (C j).toNat)
     case atStart=>exact⟨_,rfl,0,rfl,E _,E _,by simp,bP.q⟩
     case round=>
      obtain⟨W,rfl,q,rfl,hqT,hqx,hcm,hbx⟩:=hrel;have gL:=g hbx;have HCM:=g hcm;clear hbx hcm;by_cases h1:q<x.length
      ·by_cases h2:q<Wh.length
       ·have hd3:decide ((q:z)<min (x.length:z) (Wh.length:z))=B:=decide_eq_true ah
        obtain⟨a1,ha1⟩:∃a1,x[q]?=J a1:=⟨_,I h1⟩;obtain⟨a2,ha2⟩:∃a2,Wh[q]?=J a2:=⟨_,I h2⟩;have hi1:=fun W=>eZ A x q a1 ha1 W
        have hi2:=fun W=>eZ A Wh q a2 ha2 W
        have HA1:=g ha1;have HA2:=g ha2;have HL:=g (⟨h1,h2⟩:_∧_);clear ha1 ha2 h1 h2;by_cases he:a1=a2
        ·have hb:((a1.toNat:z)==(a2.toNat:z))=B:=by simp[he]
         have HE:=g he;clear he
         go_wp2_with (go_quiet (fail))
         go_roundw
         case rel=>exact⟨_,rfl,q+1,by go_num,HL.q.2,HL.q.1,by have:=CX HA1.q (HE.q▸HA2.q);have:=HCM.q;omega,dM gL.q _⟩
         case measure=>have:=HL.q.2;simp[C];omega
        ·have hb:((a1.toNat:z)==(a2.toNat:z))=u:=beq_eq_false_iff_ne.2 (fun e=>he (UInt8.toNat_inj.1 ah))
         have HE:=g he;clear he
         go_wp2_with (go_quiet (fail))
         go_roundw
         case rel=>exact END.q _ q (dM gL.q _) (by have:=nL (.inr (.inr ⟨a1,a2,HA1.q,HA2.q,HE.q⟩));have:=HCM.q;omega)
         case measure=>simp[C];omega
       ·have hd3:decide ((q:z)<min (x.length:z) (Wh.length:z))=u:=decide_eq_false ah
        have HL:=g h2;clear h2
        go_wp2_with (go_quiet (fail))
        go_roundw
        case rel=>exact END.q _ q (dM gL.q _) (by have:=nL (x:=x) (t:=Wh) (k:=q) (.inr (.inl (by have:=HL.q;omega)));have:=HCM.q;omega)
        case measure=>simp[C];omega
      ·have hd3:decide ((q:z)<min (x.length:z) (Wh.length:z))=u:=decide_eq_false ah
       have HL:=g h1;clear h1
       go_wp2_with (go_quiet (fail))
       go_roundw
       case rel=>exact END.q _ q (dM gL.q _) (by have:=nL (x:=x) (t:=Wh) (k:=q) (.inl (by have:=HL.q;omega));have:=HCM.q;omega)
       case measure=>simp[C];omega
    ·obtain⟨q,hq⟩:∃q:O,q=p+Wh.length:=⟨_,rfl⟩
     have LZ:x=Wh:=by simpa using hxe
     have hqi:(p:z)+(x.length:z)=(q:z):=by rw[LZ];omega
     have Br:q≤1000000:=by omega
     have ht:=HC.q.to Wh.length rfl hTl q hq;have HT2:=g ht.1;have iq:=g ((Mv.of_below (R:=R) (c:=c) bP.q).trans ht.2);have Ec:Hid (dH ws l= .ok (k,l.drop Wh.length)):=g (by
      unfold dH;rw[←HT.q,←TA.q,findIdx?_take (fun s=>s==Wh) ws k (M.2 (fun y hy=>by simpa using jv.q y hy)) x qQ.q hxe])
     clear ht hq LZ;go_wp2_with fail;go_ret;show kW R s c n w _ _ _ _;rw[HX.q,Ec.q];exact⟨rfl,q,HT2.q,iq.q⟩
   ·obtain rfl:k=nn:=by omega
    have hF:∀W,Calls D 164 #[Q G ((p:z)+(m:z)),Q G 220] W (fun e w'=>e= .panicked (kJ (p+m) 220)∧w'=W):=fun W=>by
     have:=fA (p+m) 220 W
     rwa[N] at this
    have HF:=fun W=>g (hF W)
    have htk:ws.take k=ws:=U (by rw[HR.q.len];exact Nat.le_refl _);rw[htk] at hm hne;have Ec:Hid (dH ws l= .error (l.drop m,220)):=g (by
     unfold dH;rw[←HT.q,←TA.q,M.2 (fun y hy=>by simpa using hne y hy),←hm])
    have bP:=g hbw;have HC:=g (HH.q.below hbw);have c1:=HC.q.c1;clear hm hne hbw hF htk;go_wp2_with fail;refine(HF _).q.mono ?_;rintro e w4 ⟨rfl,rfl⟩;refine⟨rfl,?_⟩;show kW R s c n w _ _ _ _;rw[HX.q,Ec.q];refine⟨?_,Same.of_below bP.q (fun _ _ h=>h)⟩;rw[show s.length - (l.drop m).length=p+m by rw[List.length_drop];omega]
 ·have hend:p+T.length<s.length:=by
   have:=congrArg List.length hd;simp at this;omega
  have hd1:decide ((p:z)+(T.length:z)<(s.length:z))=B:=decide_eq_true ah;have hsb:s[p+T.length]?=J b:=by
   have:=congrArg (fun l=>l[0]?) hd;rw[←HH.q.d] at this
   simpa using this
  have hix:=fun W=>eZ A s (p+T.length) b hsb W
  rw[N] at hix;have hb1':decide ((128:z)≤(b.toNat:z))=B:=decide_eq_true ah;have akr:((⟨T.toArray⟩:ByteArray)++⟨#[128]⟩)=⟨Wh.toArray⟩:=by rw[LY];exact ahC T [128]
  have XF:=g LY;clear hd hsb LY;go_enter func217,ntmps217;go_wp2_with fail;refine HS.q.mono ?_;rintro e w1 ⟨rfl,hb1⟩;have H1:=g (HH.q.below hb1);have HB1:=g hb1;have c0:=H1.q.c0;have c1:=H1.q.c1;clear hb1
  go_wp2_with (go_quiet (fail))
  clear hd1 c0 c1
  go_loopw [8,47] (fun f i wr=>∃k m:O,k≤nn∧i= Q G k∧f= Q G m∧m=tq (ws.take k) T∧(∀x∈ws.take k,x≠Wh)∧Below w.heap.size w wr) (fun _ i _=>nn - (C i).toNat)
  case atStart=>exact⟨0,0,E _,rfl,rfl,rfl,by simp,dM HB1.q _⟩
  case round=>
   obtain⟨k,m,hk,rfl,rfl,hm,hne,hbw⟩:=hrel;have hmt:m≤T.length:=by rw[hm];exact LX _ _
   have hml:m≤1000000:=by omega
   by_cases hlt:k<nn
   ·obtain⟨x,b',o,hx,rfl,hc⟩:=(HR.q.below hbw rfl).at_ hlt
    have hc0:=hc 0 _ rfl;simp only[Nat.mul_one,Nat.add_zero] at hc0;have hxw:x∈ws:=List.mem_of_getElem? hx;have hxl:=HW.q x hxw;have bP:=g hbw;have HM:=g hm;have jv:=g hne;have qQ:=g hx;have Iu:=g hxw;have HC:=g (HH.q.below hbw);have c1:=HC.q.c1;have z1:=f1 HC.q 1;clear hc hbw hm hne hx hxw
    cases hxe:x==Wh
    ·clear c1 z1
     have END:Hid (∀(W':World) (q:O),Below w.heap.size w W'→gD x T=q→∃k' m':O,k'≤nn∧V G ((k:z)+1)= Q G k'∧V G (max (m:z) (q:z))= Q G m'∧m'=tq (ws.take k') T∧(∀y∈ws.take k',y≠Wh)∧Below w.heap.size w W'):=g (fun W' q hb hq=>
      ⟨k+1,max m q,by omega,by rw[N];rfl,congrArg (V G) ah,by rw[K,qQ.q,Option.toList_some,ES,hq,←HM.q],fun y hy=>by
       rw[K,qQ.q] at hy;rcases List.mem_append.1 hy with hy|hy
       ·exact jv.q y hy
       ·obtain rfl:y=x:=by simpa using hy
        exact fun e=>by rw[e] at hxe;simp at hxe,hb⟩)
     go_wp2_with fail
     go_loopw [11] (fun j wx=>∃W,W=wx∧∃q:O,j= Q G q∧q≤T.length∧q≤x.length∧gD (x.drop q) (T.drop q)+q=gD x T∧Below w.heap.size w W) (fun j _=>T.length - (C j).toNat)
     case atStart=>exact⟨_,rfl,0,rfl,E _,E _,by simp,bP.q⟩
     case round=>
      obtain⟨W,rfl,q,rfl,hqT,hqx,hcm,hbx⟩:=hrel;have gL:=g hbx;have HCM:=g hcm;clear hbx hcm;by_cases h1:q<x.length
      ·by_cases h2:q<T.length
       ·have hd3:decide ((q:z)<min (x.length:z) (T.length:z))=B:=decide_eq_true ah
        obtain⟨a1,ha1⟩:∃a1,x[q]?=J a1:=⟨_,I h1⟩;obtain⟨a2,ha2⟩:∃a2,T[q]?=J a2:=⟨_,I h2⟩;have hi1:=fun W=>eZ A x q a1 ha1 W
        have hi2:=fun W=>eZ A T q a2 ha2 W
        have HA1:=g ha1;have HA2:=g ha2;have HL:=g (⟨h1,h2⟩:_∧_);clear ha1 ha2 h1 h2;by_cases he:a1=a2
        ·have hb:((a1.toNat:z)==(a2.toNat:z))=B:=by simp[he]
         have HE:=g he;clear he
         go_wp2_with (go_quiet (fail))
         go_roundw
         case rel=>exact⟨_,rfl,q+1,by go_num,HL.q.2,HL.q.1,by have:=CX HA1.q (HE.q▸HA2.q);have:=HCM.q;omega,dM gL.q _⟩
         case measure=>have:=HL.q.2;simp[C];omega
        ·have hb:((a1.toNat:z)==(a2.toNat:z))=u:=beq_eq_false_iff_ne.2 (fun e=>he (UInt8.toNat_inj.1 ah))
         have HE:=g he;clear he
         go_wp2_with (go_quiet (fail))
         go_roundw
         case rel=>exact END.q _ q (dM gL.q _) (by have:=nL (.inr (.inr ⟨a1,a2,HA1.q,HA2.q,HE.q⟩));have:=HCM.q;omega)
         case measure=>simp[C];omega
       ·have hd3:decide ((q:z)<min (x.length:z) (T.length:z))=u:=decide_eq_false ah
        have HL:=g h2;clear h2
        go_wp2_with (go_quiet (fail))
        go_roundw
        case rel=>exact END.q _ q (dM gL.q _) (by have:=nL (x:=x) (t:=T) (k:=q) (.inr (.inl (by have:=HL.q;omega)));have:=HCM.q;omega)
        case measure=>simp[C];omega
      ·have hd3:decide ((q:z)<min (x.length:z) (T.length:z))=u:=decide_eq_false ah
       have HL:=g h1;clear h1
       go_wp2_with (go_quiet (fail))
       go_roundw
       case rel=>exact END.q _ q (dM gL.q _) (by have:=nL (x:=x) (t:=T) (k:=q) (.inl (by have:=HL.q;omega));have:=HCM.q;omega)
       case measure=>simp[C];omega
    ·exfalso
     have LZ:x=Wh:=by simpa using hxe
     have h128:=HWA.q x Iu.q;rw[LZ,XF.q] at h128;exact h128 ak
   ·obtain rfl:k=nn:=by omega
    have hF:∀W,Calls D 164 #[Q G ((p:z)+(m:z)),Q G 220] W (fun e w'=>e= .panicked (kJ (p+m) 220)∧w'=W):=fun W=>by
     have:=fA (p+m) 220 W
     rwa[N] at this
    have HF:=fun W=>g (hF W)
    have htk:ws.take k=ws:=U (by rw[HR.q.len];exact Nat.le_refl _);rw[htk] at hm hne;have Ec:Hid (dH ws l= .error (l.drop m,220)):=g (by
     unfold dH;rw[←HT.q,←TA.q,M.2 (fun y hy=>by simpa using hne y hy),←hm])
    have bP:=g hbw;have HC:=g (HH.q.below hbw);have c1:=HC.q.c1;clear hm hne hbw hF htk;go_wp2_with fail;refine(HF _).q.mono ?_;rintro e w4 ⟨rfl,rfl⟩;refine⟨rfl,?_⟩;show kW R s c n w _ _ _ _;rw[HX.q,Ec.q];refine⟨?_,Same.of_below bP.q (fun _ _ h=>h)⟩;rw[show s.length - (l.drop m).length=p+m by rw[List.length_drop];omega]
end Yd
