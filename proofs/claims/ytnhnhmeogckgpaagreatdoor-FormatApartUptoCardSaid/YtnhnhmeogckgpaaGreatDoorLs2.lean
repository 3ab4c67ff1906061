import Derived.Test.YtnhnhmeogckgpaaGreatDoorF16
import Derived.Test.YtnhnhmeogckgpaaGreatDoorCut12
import Derived.Test.YtnhnhmeogckgpaaGreatDoorSaC
set_option linter.all false
set_option maxRecDepth 200000
set_option maxHeartbeats 8000000
namespace Yd
open Int renaming toNat_natCast→o
open Go Go.RowKit Go.Proofs Tryz
open Go.IntKind renaming i64→k
open Go.Value renaming int→j,pointer→t,string→C
open _root_ renaming Int→g,if_neg→u,Nat→z,if_pos→A
theorem Ed {s:Bs} {p:z} (hp:p<s.length) (h:(bZ s (p:g)).2.2=0):∃q:z,(bZ s (p:g)).2.1=(q:g)∧p<q∧q≤s.length:=by
 unfold bZ at h ⊢;rw[u ah,o] at h ⊢
 cases hl:rE (s.drop p) with
 |error x=>
  obtain⟨r,m⟩:=x;rw[hl] at h;exact absurd h (K9 _ _ _ hl)
 |ok x=>
  obtain⟨n,r⟩:=x;refine⟨s.length - r.length,rfl,?_,by omega⟩;rcases(Kt hl).2 with rfl|hs
  ·simpa using hp
  ·have:=hs.length_le
   rw[List.length_cons,List.length_drop] at this;omega
structure wQ where
 fr:g
 to:g
 ln:aB
 er:g
def gV (s:Bs):z→z→List wQ
 |0,_=>[]
 |n+1,p=>if p<s.length then⟨(p:g),(bZ s (p:g)).2.1,(bZ s (p:g)).1,(bZ s (p:g)).2.2⟩::(if(bZ s (p:g)).2.2=0 then gV s n (bZ s (p:g)).2.1.toNat else []) else []
theorem qh (s:Bs):∀(n p:z),s.length<n+p→
  ((∀x∈gV s n p,x.er=0)∧vv s n p= .ok ((gV s n p).map (fun x=>(x.ln,x.fr))))∨
  (∃pre x,gV s n p=pre++[x]∧(∀y∈pre,y.er=0)∧x.er≠0∧vv s n p= .error (x.to,x.er))
 |0,p,h=> .inl ⟨fun x hx=>(by cases hx),rfl⟩
 |n+1,p,h=>by
  by_cases hp:p<s.length
  ·by_cases h0:(bZ s (p:g)).2.2=0
   ·obtain⟨q,e1,e2,e3⟩:=Ed hp h0
    have hi:gV s (n+1) p=⟨(p:g),(bZ s (p:g)).2.1,(bZ s (p:g)).1,(bZ s (p:g)).2.2⟩::gV s n q:=by
     show(if p<s.length then _ else _)=_;rw[A hp,A h0,e1,o]
    have hl:vv s (n+1) p=match vv s n q with| .ok r=> .ok (((bZ s (p:g)).1,(p:g))::r)| .error x=> .error x:=by
     show(if p<s.length then _ else _)=_;rw[A hp,A h0,e1,o]
     all_goals (cases vv s n q <;> rfl)
    rcases qh s n q ah with⟨a,b⟩|⟨pre,x,a,b,c,d⟩
    ·refine .inl ⟨fun x hx=>?_,?_⟩
     ·rw[hi] at hx
      rcases List.mem_cons.1 hx with rfl|hx
      ·exact h0
      ·exact a x hx
     ·rw[hl,b,hi];rfl
    ·refine .inr ⟨⟨(p:g),(bZ s (p:g)).2.1,(bZ s (p:g)).1,(bZ s (p:g)).2.2⟩::pre,x,by rw[hi,a];rfl,fun y hy=>?_,c,by rw[hl,d]⟩
     rcases List.mem_cons.1 hy with rfl|hy
     ·exact h0
     ·exact b y hy
   ·refine .inr ⟨[],⟨(p:g),(bZ s (p:g)).2.1,(bZ s (p:g)).1,(bZ s (p:g)).2.2⟩,?_,fun y hy=>(by cases hy),h0,?_⟩
    ·show(if p<s.length then _ else _)=_
     rw[A hp,u h0];rfl
    ·show(if p<s.length then _ else _)=_
     rw[A hp,u h0]
  ·refine .inl ⟨fun x hx=>?_,?_⟩
   ·unfold gV at hx
    rw[u hp] at hx;cases hx
   ·unfold gV vv
    rw[u hp,u hp];rfl
theorem Qw {s:Bs} {n p:z} (hp:p<s.length):gV s (n+1) p=⟨(p:g),(bZ s (p:g)).2.1,(bZ s (p:g)).1,(bZ s (p:g)).2.2⟩::(if(bZ s (p:g)).2.2=0 then gV s n (bZ s (p:g)).2.1.toNat else []):=by
 show(if p<s.length then _ else _)=_;rw[A hp]
theorem IL (s:Bs):∀(n p:z) (x:wQ),x∈gV s n p→x.ln.names.length≤1000∧x.ln.aF.length≤1000
 |0,_,x,h=>by cases h
 |n+1,p,x,h=>by
  unfold gV at h
  split at h
  ·rcases List.mem_cons.1 h with rfl|h
   ·exact OY s _
   ·split at h
    ·exact IL s n _ x h
    ·cases h
  ·cases h
attribute [local go_sem] Oper.semAt_some
def Bf (w:World):Prop:=nD w∧xR w
theorem Bf.below {w w':World} (h:Bf w) (hb:Below w.heap.size w w'):Bf w':=⟨h.1.below hb,h.2.below hb⟩
theorem VB (s:ByteArray) (w:World):Calls Tryz.prog 34 #[.string s] w fun e w'=>e= .returned (.func (.func 77) #[] #[t (some ⟨w.heap.size,0,none⟩)])∧w'=w.alloc (.cells #[.string s] 9):=by
 go_enter Tryz.func34,Tryz.ntmps34;go_wp2_with fail;go_ret;exact⟨rfl,rfl⟩
def XA (B:z) (x:wQ) (args:Array Value) (X:World):Prop:=
 ∃b4 b6 l,B≤b4∧b4<b6∧args=#[.agg #[j k x.fr,j k x.to],.func (.func 79) #[] #[t (some ⟨b4,0,none⟩),t (some ⟨b6,0,none⟩)]]∧Bx X b4 (jE l)∧Bx X b6 #[j k x.er]∧gM X B l x.ln∧∃cs fz,X.heap[b6]?=some (.cells cs 27 fz)
def VD (B:z) (x:wQ) (args:Array Value) (X:World):Prop:=
 ∃b4 b6,B≤b6∧args=#[.agg #[j k x.fr,j k x.to],.func (.func 79) #[] #[t (some ⟨b4,0,none⟩),t (some ⟨b6,0,none⟩)]]∧Bx X b6 #[j k x.er]
theorem Zc (b4 b6:z) (l:bf) (er:g) (w:World) (h4:Bx w b4 (jE l)) (h6:Bx w b6 #[j k er]):
  Calls Tryz.prog 79 #[t (some ⟨b4,0,none⟩),t (some ⟨b6,0,none⟩)] w (uF (kG l) (j k er) w):=by
 obtain⟨lk,la,ln,nc,lvl,va,vn,vc,lf,bits⟩:=l;have hl4:=h4.2.2;have hl6:=h6.2.2;have H4:=hid h4;have H6:=hid h6;clear h4 h6;go_enter func79,ntmps79;go_wp2_with fail;refine aI 3 [(0,0),(1,0),(2,2),(3,1)] (fun _=>True) (fun W'=>Bx W' b4 #[j k lk,.slice la ln nc,j k lvl,.slice va vn vc,.bool lf,j k bits]∧Bx W' b6 #[j k er]) au au (trivial) (⟨(H4.q.alloc _).drew,(H6.q.alloc _).drew⟩) ?_;refine qC ?_;refine aD rfl rfl (fun K hK=>?_);go_simp;refine hK _ _ ⟨trivial,(H4.q.alloc _).drew,(H6.q.alloc _).drew⟩ ?_;clear hK K;refine qC ?_;refine bn ?_;have hcz:=(Bx.new w #[j k lk,.slice la ln nc,j k lvl,.slice va vn vc,.bool lf,j k bits] 34).drew.1;go_wp2_with fail;refine bodyPost_ret (v:= .tuple #[kG ⟨lk,la,ln,nc,lvl,va,vn,vc,lf,bits⟩,j k er]) (by simp[results,results79,go_sem,hcz]) rfl ⟨rfl,(av (Below.refl _ _) _).drew⟩
theorem ab9:∀args w,(callFunc 77 args).run Tryz.prog w= .ok (.enter 77 args) w:=enters_of func77 au rfl
theorem Mx (s:Bs) (hlim:s.length≤1000000) (bs:z) (D:z→Prop) (W:World) (hs:Bx W bs #[C ⟨s.toArray⟩]) (QG:D bs):
  Ye Tryz.prog 77 #[t (some ⟨bs,0,none⟩)] (XA W.heap.size) 0 D Bf (VD W.heap.size) (gV s (s.length+1) 0) W:=by
 intro n l J Jx hJ hJx hJR aks hY h0;refine callsIn_of_wp func77 rfl trivial ?_ rfl;simp only[ntmps77,List.size_toArray,List.length_cons,List.length_nil,Nat.reduceAdd,Nat.reduceSub,Array.replicate_succ,Array.replicate_zero,List.push_toArray,List.append_toArray,List.nil_append,List.cons_append];have hz:=fO s
 gi_wp2
 gi_loopw [3] (fun i wr=>∃(p fuel:z) (pre:List wQ),i= j k p∧pre++gV s fuel p=gV s (s.length+1) 0∧J pre wr∧Bx wr bs #[C ⟨s.toArray⟩]∧W.heap.size≤wr.heap.size∧s.length<fuel+p∧p≤s.length) (fun i _=>s.length - (RowKit.intOf i).toNat)
 case atStart=>exact⟨0,s.length+1,[],rfl,rfl,h0,hs,Nat.le_refl _,by omega,Nat.zero_le _⟩
 case round=>
  obtain⟨p,fuel,pre,rfl,hpre,hj,hsr,ah2,hfu,akt⟩:=hrel;have hc:=hsr.1;by_cases hp:p<s.length
  ·obtain⟨f,rfl⟩:∃f,fuel=f+1:=⟨fuel - 1,by omega⟩
   have hgd:=hJR _ _ hj;have sF:=hid (Td s (p:g) hlim wr hgd.1.1.1 hgd.2 hgd.1);obtain⟨rd,hrd⟩:∃rd,rd=bZ s (p:g):=⟨_,rfl⟩;have hst:=Qw (n:=f) hp;rw[←hrd] at hst;rw[hst] at hpre;have hnx:rd.2.2=0→∃q:z,rd.2.1=(q:g)∧p<q∧q≤s.length:=by rw[hrd];exact Ed hp
   rw[←hrd] at sF;obtain⟨rn,ro,er⟩:=rd;have zO:=hid hpre;have HJ:=hid hj;have WL:=hid hsr;have DC:=hid hnx;have Yi:=hid ah2;have hp2:(p:g)<(s.length:g):=by omega
   clear hpre hj hsr hst hrd hnx hgd
   gi_wp2
   refine⟨trivial,fun h=>(by cases h),?_⟩;refine(callsIn_wide.2 sF.q).mono ?_;rintro e w1 ⟨cl,rfl,hat,hb1⟩;have HAT:=hid hat;have HB1:=hid hb1;clear hat hb1 sF;obtain⟨X,hX⟩:∃X,X=(w1.alloc (.cells (jE cl) 34)).alloc (.cells #[j k er] 27):=⟨_,rfl⟩;have hbX:Below wr.heap.size wr X:=by rw[hX];exact(HB1.q.alloc HB1.q.size _).alloc (by have:=HB1.q.size;simp;omega) _
   have QH:X.heap.size=w1.heap.size+2:=by rw[hX];simp
   have hx4:Bx X w1.heap.size (jE cl):=by rw[hX];exact(Bx.new w1 _ _).alloc _
   have hx6:Bx X (w1.heap.size+1) #[j k er]:=by
    rw[hX];have:=Bx.new (w1.alloc (.cells (jE cl) 34)) #[j k er] 27;rw[World.size_alloc] at this;exact this
   have Ri:gM X W.heap.size cl rn:=by rw[hX];exact((HAT.q.below (((Below.refl w1.heap.size w1).alloc (Nat.le_refl _) _).alloc ak _)).mono Yi.q)
   have hty:∃cs fz,X.heap[w1.heap.size+1]?=some (.cells cs 27 fz):=by
    rw[hX];have:=World.alloc_heap_new (w1.alloc (.cells (jE cl) 34)) (.cells #[j k er] 27);rw[World.size_alloc] at this;exact⟨_,_,this⟩
   have QI:J pre X:=hJ _ _ _ HJ.q (Same.of_below hbX (fun i _ hl=>hl));have hw1:=HB1.q.size;obtain⟨fn,tmps,assign,body,hy,hR⟩:=hY pre ⟨(p:g),ro,rn,er⟩ #[.agg #[j k (p:g),j k ro],.func (.func 79) #[] #[t (some ⟨w1.heap.size,0,none⟩),t (some ⟨w1.heap.size+1,0,none⟩)]] X QI
    ⟨_,by rw[←zO.q];simp;rfl⟩ ⟨w1.heap.size,w1.heap.size+1,cl,by have:=Yi.q;omega,by omega,rfl,hx4,hx6,Ri,hty⟩ (by have:=Yi.q;omega) (n - 1)
   have HX:=hid hX;have TB:Hid (Bx X bs #[C ⟨s.toArray⟩]):=hid (WL.q.keep hbX);have wC:Hid (W.heap.size≤X.heap.size):=hid (by have:=Yi.q;omega);rw[hX] at hy hR;clear hX hbX QH hx4 hx6 Ri QI hw1
   gi_wp2
   refine⟨fun h=>(by cases h),?_⟩;refine hR.mono ?_;rintro e W' (⟨rfl,hJ',hk,hkp⟩|⟨rfl,zC,_⟩)
   ·clear hR hy
    obtain⟨b4',b6',_,hargs,adF⟩:=hkp;simp at hargs;obtain⟨rfl,rfl⟩:=hargs;rw[←HX.q] at hk;have OH:Bx W' bs #[C ⟨s.toArray⟩]:=⟨fun i=>(World.cell?_of_block (a:=⟨bs,i,none⟩) (hk.2 _ QG TB.q.2.2)).trans (TB.q.1 i),fun i=>(World.frozen?_of_block (a:=⟨bs,i,none⟩) (hk.2 _ QG TB.q.2.2)).trans (TB.q.2.1 i),Nat.lt_of_lt_of_le TB.q.2.2 hk.1⟩;have ah3:=hid OH;have HJ3:=hid hJ';have HW3:Hid (W.heap.size≤W'.heap.size):=hid (Nat.le_trans wC.q hk.1);have hc6:=adF.1;clear hk OH hJ' adF;by_cases h0:er=0
    ·subst h0
     obtain⟨q,hq,hq1,hq2⟩:=DC.q rfl;have HQ:=hid hq;have HQ1:=hid hq1;have Yj:=hid hq2;clear hq hq1 hq2
     gi_wp2
     go_roundw
     case rel=>
      have hro:ro=(q:g):=HQ.q;refine⟨q,f,pre++[⟨(p:g),ro,rn,0⟩],by rw[hro],?_,HJ3.q,ah3.q,HW3.q,by have:=HQ1.q;omega,Yj.q⟩;have:=zO.q;simp only[if_true] at this;simp only[hro,o] at this ⊢;rw[←this];simp
     case measure=>
      have hro:ro=(q:g):=HQ.q;rw[hro];have:=HQ1.q;have:=Yj.q;simp only[RowKit.intOf,o];omega
    ·have hne1:(er==0)=false:=beq_eq_false_iff_ne.2 h0
     have hne2:(er !=0)=true:=by simp[h0]
     have H0:=hid h0;clear h0
     gi_wp2
     refine bodyPost_ret (results_none rfl _ _ _) rfl ?_;have:=zO.q;rw[u H0.q] at this;exact⟨_,rfl,.inl (by rw[←this];exact HJ3.q)⟩
   ·clear hR hy
    gi_wp2
    refine bodyPost_ret (results_none rfl _ _ _) rfl ?_;exact⟨_,rfl,.inr ⟨pre++[⟨(p:g),ro,rn,er⟩],⟨_,by rw[←zO.q];simp;rfl⟩,zC⟩⟩
  ·have hp2:¬(p:g)<(s.length:g):=by omega
   have zO:=hid hpre;have HJ:=hid hj;clear hpre hj
   gi_wp2
   go_end0
   refine⟨⟨_,rfl⟩,.inl ?_⟩;have h1:gV s fuel p=[]:=by
    cases fuel with
    |zero=>rfl
    |succ f=>unfold gV;rw[u hp]
   have h2:=zO.q;rw[h1,List.append_nil] at h2;rw[←h2];exact HJ.q
end Yd
namespace Yd
open Go Go.RowKit Go.Proofs
open Go renaming World→b,Value→d
theorem nk {A:Nat→Prop} {X Y:b} {row:Option Nat} (hg:X.grownBy Y row) (h:∀g,row=some g→¬A g):Same A X Y:=
 ⟨hg.os,hg.tape,hg.output,hg.size,fun i hi hl=>hg.block i hl (fun e=>h i e.symm hi)⟩
theorem own_ne {α β:Type} {enc:α→List d} {enc':β→List d} {k k':Nat} {X:b} {B B':Nat} {T T':TypeId} {v v':d} {xs:List α} {ys:List β} (h:Own X B T k enc v xs) (h':Own X B' T' k' enc' v' ys) (hT:T≠T') {g:Nat} (e:v.ownBlock=some g):v'.ownBlock≠some g:=fun e'=>by
 obtain⟨_,_,e1⟩:=h.tag e;obtain⟨_,_,e2⟩:=h'.tag e';rw[e1] at e2
 cases e2
 exact hT rfl
theorem gM.su {X Y:b} {B:Nat} {l:bf} {s:aB} {row:Option Nat} (h:gM X B l s) (hg:X.grownBy Y row) (hr:∀g,row=some g→∃cs T fz,X.heap[g]?=some (.cells cs T fz)∧9≠T∧76≠T):gM Y B l s:=by
 refine⟨h.1,h.2.1.grown hg (fun g hv e=>?_),h.2.2.grown hg (fun g hv e=>?_)⟩
 ·obtain⟨cs,T,fz,e1,e2,_⟩:=hr g e
  obtain⟨_,_,e3⟩:=h.2.1.tag hv;rw[e1] at e3;cases e3;exact e2 rfl
 ·obtain⟨cs,T,fz,e1,_,e2⟩:=hr g e
  obtain⟨_,_,e3⟩:=h.2.2.tag hv;rw[e1] at e3;cases e3;exact e2 rfl
theorem l8.su {X Y:b} {B:Nat} {aR:List bf} {ls:List aB} {row:Option Nat} (h:l8 X B aR ls) (hg:X.grownBy Y row) (hr:∀g,row=some g→∃cs T fz,X.heap[g]?=some (.cells cs T fz)∧9≠T∧76≠T):l8 Y B aR ls:=
 ⟨h.1,fun i l hl=>let⟨s,h1,h2⟩:=h.2 i l hl;⟨s,h1,h2.su hg hr⟩⟩
theorem l8.same {w w':b} {B:Nat} {aR:List bf} {ls:List aB} (h:l8 w B aR ls) {A:Nat→Prop} (hs:Same A w w') (hA:∀i,B≤i→A i):l8 w' B aR ls:=
 ⟨h.1,fun i l hl=>let⟨s,h1,h2⟩:=h.2 i l hl;⟨s,h1,h2.1,h2.2.1.same hs (fun g hg=>hA g (h2.2.1.lt g hg).1),h2.2.2.same hs (fun g hg=>hA g (h2.2.2.lt g hg).1)⟩⟩
theorem l8.snoc {w:b} {B:Nat} {aR:List bf} {ls:List aB} (h:l8 w B aR ls) {l:bf} {s:aB} (hl:gM w B l s):l8 w B (aR++[l]) (ls++[s]):=by
 have e:=h.1;refine⟨by simp[h.1],fun i q hq=>?_⟩;rcases Nat.lt_or_ge i aR.length with hi|hi
 ·rw[List.getElem?_append_left hi] at hq
  obtain⟨t,h1,h2⟩:=h.2 i q hq;exact⟨t,by rw[List.getElem?_append_left ah];exact h1,h2⟩
 ·rw[List.getElem?_append_right hi] at hq
  have h0:i - aR.length=0:=by
   rcases Nat.eq_zero_or_pos (i - aR.length) with h0|h0
   ·exact h0
   ·rw[List.getElem?_eq_none (by simp;omega)] at hq;cases hq
  rw[h0] at hq;injection hq with hq;subst hq;exact⟨s,by rw[List.getElem?_append_right ah,show i - ls.length=0 by omega];rfl,hl⟩
theorem gM.same {w w':b} {B:Nat} {l:bf} {s:aB} (h:gM w B l s) {A:Nat→Prop} (hs:Same A w w') (hA:∀i,B≤i→A i):gM w' B l s:=
 ⟨h.1,h.2.1.same hs (fun g hg=>hA g (h.2.1.lt g hg).1),h.2.2.same hs (fun g hg=>hA g (h.2.2.lt g hg).1)⟩
structure oI (K N:Nat) (X:b) (v4 v5 vL:d) (aR:List bf) (ls:List aB) (vP:d) (ps:List Int):Prop where
 x4:Bx X K #[v4]
 x5:Bx X (K+1) #[v5]
 oL:Own X N 34 6 iG vL aR
 aL:l8 X N aR ls
 oP:Own X N 3 1 aZ vP ps
section
variable {K N:Nat} {X Y:b} {v4 v5 vL vP v':d} {aR:List bf} {ls:List aB} {ps:List Int}
theorem oI.same (h:oI K N X v4 v5 vL aR ls vP ps) {A:Nat→Prop} (s:Same A X Y) (h4:A K) (h5:A (K+1)) (hN:∀i,N≤i→A i):oI K N Y v4 v5 vL aR ls vP ps:=
 ⟨s.bx h.x4 h4,s.bx h.x5 h5,h.oL.same s (fun g hg=>hN g (h.oL.lt g hg).1),h.aL.same s hN,h.oP.same s (fun g hg=>hN g (h.oP.lt g hg).1)⟩
theorem oI.below (h:oI K N X v4 v5 vL aR ls vP ps) (hb:Below X.heap.size X Y):oI K N Y v4 v5 vL aR ls vP ps:=h.same (A:=fun _=>True) (Same.of_below hb (fun i _ hl=>hl)) trivial trivial (fun _ _=>trivial)
theorem oI.adG (h:oI K N X v4 v5 vL aR ls vP ps):∀g,vL.ownBlock=some g→∃cs T fz,X.heap[g]?=some (.cells cs T fz)∧9≠T∧76≠T:=fun g hg=>(let⟨cs,fz,e⟩:=h.oL.tag hg;⟨cs,_,fz,e,by decide,by decide⟩)
theorem oI.ah4 (h:oI K N X v4 v5 vL aR ls vP ps):∀g,vP.ownBlock=some g→∃cs T fz,X.heap[g]?=some (.cells cs T fz)∧9≠T∧76≠T:=fun g hg=>(let⟨cs,fz,e⟩:=h.oP.tag hg;⟨cs,_,fz,e,by decide,by decide⟩)
theorem oI.aeV (h:oI K N X v4 v5 vL aR ls vP ps) {l:bf} {s:aB} (hl:gM X N l s) (ho:Own Y N 34 6 iG v' (aR++[l])) (hg:X.grownBy Y vL.ownBlock) (hK:K+1<N):oI K N Y v4 v5 v' (aR++[l]) (ls++[s]) vP ps:=
 ⟨h.x4.grown hg (fun e=>by have:=(h.oL.lt _ e).1;omega),h.x5.grown hg (fun e=>by have:=(h.oL.lt _ e).1;omega),ho,(h.aL.su hg h.adG).snoc (hl.su hg h.adG),h.oP.grown hg (fun g hv e=>own_ne h.oP h.oL aj hv e)⟩
theorem oI.aeW (h:oI K N X v4 v5 vL aR ls vP ps) {p:Int} (ho:Own Y N 3 1 aZ v' (ps++[p])) (hg:X.grownBy Y vP.ownBlock) (hK:K+1<N):oI K N Y v4 v5 vL aR ls v' (ps++[p]):=
 ⟨h.x4.grown hg (fun e=>by have:=(h.oP.lt _ e).1;omega),h.x5.grown hg (fun e=>by have:=(h.oP.lt _ e).1;omega),h.oL.grown hg (fun g hv e=>own_ne h.oL h.oP aj hv e),h.aL.su hg h.ah4,ho⟩
theorem oI.ahk (h:oI K N X v4 v5 vL aR ls vP ps) (v:d) (hK:K+1<N):oI K N (X.setCell ⟨K,0,none⟩ v) v v5 vL aR ls vP ps:=by
 have s:Same (fun i=>i≠K) X (X.setCell ⟨K,0,none⟩ v):=(Same.refl' X).setTail (fun h=>h rfl);exact⟨h.x4.set1 v,s.bx h.x5 ah,h.oL.same s (fun g hg=>by have:=(h.oL.lt g hg).1;omega),h.aL.same s (fun _ hi=>by omega),h.oP.same s (fun g hg=>by have:=(h.oP.lt g hg).1;omega)⟩
theorem oI.ahl (h:oI K N X v4 v5 vL aR ls vP ps) (v:d) (hK:K+1<N):oI K N (X.setCell ⟨K+1,0,none⟩ v) v4 v vL aR ls vP ps:=by
 have s:Same (fun i=>i≠K+1) X (X.setCell ⟨K+1,0,none⟩ v):=(Same.refl' X).setTail (fun h=>h rfl);exact⟨s.bx h.x4 ah,h.x5.set1 v,h.oL.same s (fun g hg=>by have:=(h.oL.lt g hg).1;omega),h.aL.same s (fun _ hi=>by omega),h.oP.same s (fun g hg=>by have:=(h.oP.lt g hg).1;omega)⟩
end
theorem zP (s:Bs):∀(n p:Nat),(gV s n p).length≤n
 |0,_=>Nat.le_refl _
 |n+1,p=>by
  unfold gV
  split
  ·rw[List.length_cons]
   split
   ·exact Nat.succ_le_succ (zP s n _)
   ·exact Nat.succ_le_succ (Nat.zero_le _)
  ·exact Nat.zero_le _
theorem Row.QA (X:b) (l:bf):Row (X.alloc (.cells #[.int .i64 l.kind,.slice l.na l.nn l.nc,.int .i64 l.lvl,.slice l.va l.vn l.vc,.bool l.first,.int .i64 l.bits] 34)) 6 iG (some ⟨X.heap.size,0,none⟩) 1 1 [l]:=
 (Own.new (hc:=wH) X X.heap.size 34 (jE l) [l] (Nat.le_refl _) rfl (by simp[maxLen])).row ak
def lC (s:Bs):Except (Int × Int) (List (aB × Int)):=if 131072<s.length then .error (0,3) else vv s (s.length+1) 0
def Xz (s:Bs) (w:b) (e:Ending) (X:b):Prop:=
 Below w.heap.size w X∧
 match lC s with
 | .ok r=>∃a c aR pa pc,e= .returned (.tuple #[.slice a aR.length c,.slice pa r.length pc,.int .i64 (s.length:Int),.int .i64 0])∧Own X w.heap.size 34 6 iG (.slice a aR.length c) aR∧l8 X w.heap.size aR (r.map Prod.fst)∧Own X w.heap.size 3 1 aZ (.slice pa r.length pc) (r.map Prod.snd)
 | .error (n,m)=>e= .returned (.tuple #[.slice none 0 0,.slice none 0 0,.int .i64 n,.int .i64 m])
end Yd
