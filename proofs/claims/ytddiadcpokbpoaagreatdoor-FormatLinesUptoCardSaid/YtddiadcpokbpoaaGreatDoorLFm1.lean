import Derived.Test.YtddiadcpokbpoaaGreatDoorLFsP
import Derived.Test.YtddiadcpokbpoaaGreatDoorLShelf
import Derived.LoopIn
import Derived.LoopNIn
import Derived.TacticsInMore
import Derived.OwnWalkIn
import Derived.Shelf.Abstract
import Derived.Shelf.RegionOpen
import Derived.Lib.OthersKept
import Derived.Lib.RuneCountTail
import Derived.WalkMore
import Derived.ScopeJumps
import Derived.Maps.Own
import Derived.Maps.Views
import Derived.Maps.Keyed
import Derived.StringKeys
import Derived.Maps.OwnSet
import Derived.Test.YtddiadcpokbpoaaGreatDoorLOrdV
import Derived.Scope
set_option linter.all false
set_option maxRecDepth 200000
set_option maxHeartbeats 8000000
namespace Yd
open Go Go.RowKit Go.Proofs Tryz
open Go.Value renaming pointer->c,int->o
open Lib renaming iterAt_size->g,decodeGo->p
open Tryz renaming prog->m
open Utf8 renaming decode->b
open _root_ renaming ByteArray->j,Nat->k
def okB (s:j)(pos:k):Bool:=!(((b s pos).1:Int)==65533)||decide (1<((b s pos).2:Int))
theorem ajz {s:j}{pos:k}(h:(((b s pos).1:Int)==65533)=false):okB s pos=true:=by unfold okB;rw[h];rfl
theorem ajA {s:j}{pos:k}(h:(((b s pos).1:Int)==65533)=true):okB s pos=decide (1<((b s pos).2:Int)):=by unfold okB;rw[h];rfl
theorem MX (s:j)(pos:k)(h:pos<s.size):p (s.extract pos s.size)=b s pos:=by
 unfold p;rw[ak (by rw[Lib.tail_size];omega),Lib.tail_decode,bM]
theorem agr (s:j)(pos:k)(hp:pos<s.size)(bs b3 b4:k)(w:World)(hs:Bx w bs #[.string s])(h3:Bx w b3 #[o .i64 pos])(h4:Bx w b4 #[.int .i32 (b s pos).1])(hT:Lib.Utf8Tabs 5 6 w):
  Calls m 164 #[c (some ⟨bs,0,none⟩),c (some ⟨b3,0,none⟩),c (some ⟨b4,0,none⟩)] w (sH (.int .i32 (b s pos).1) (.bool (okB s pos)) w):=by
 have hc:=hs.1;have hc3:=h3.1;have hc4:=h4.1;have HD:=hid (Tryz.utf8_DecodeRuneInString (s.extract pos s.size) w hT);have HE:=hid (MX s pos hp);have H4:=hid h4;have hlt:=hs.2.2;have hlt3:=h3.2.2;have ags:=h4.2.2;clear hs h3 h4;obtain⟨r,hr⟩:∃r:Int,r=((b s pos).1:Int):=⟨_,rfl⟩;obtain⟨d,hd⟩:∃d:Int,d=((b s pos).2:Int):=⟨_,rfl⟩;have hok1:(r==65533)=false->okB s pos=true:=λh=>ajz (by rw[<-hr];exact h)
 have hok2:(r==65533)=true->okB s pos=decide (1<d):=λh=>by rw[hd];exact ajA (by rw[<-hr];exact h)
 rw[<-hr];go_enter func164,ntmps164;go_wp2_with fail;refine HD.q.mono ?_;rintro e w1 ⟨rfl,hb1⟩;rw[HE.q,<-hr,<-hd];have anW:=(H4.q.keep hb1).1;rw[<-hr] at anW;have HB:=hid hb1;clear hb1;have HR:=hid hr;have Ah:=hid hd;clear hr hd;by_cases h5:¬r=65533
 .have hq:(r==65533)=false:=aR.2 h5
  have HO:=hid (hok1 hq);clear hok1 hok2;go_wp2_with fail;refine bodyPost_ret (v:= .tuple #[.int .i32 r,.bool (okB s pos)]) (by simp[results,results164,go_sem,HO.q]) rfl ⟨rfl,HB.q⟩
 .have h5:=sw.1 h5
  subst h5;have HO:=hid (hok2 rfl);clear hok1 hok2;go_wp2_with fail;refine bodyPost_ret (v:= .tuple #[.int .i32 65533,.bool (okB s pos)]) (by simp[results,results164,go_sem,HO.q]) rfl ⟨rfl,HB.q⟩
def bN (s:j):k->k->List k
 |0,_=>[]
 |n+1,pos=>if pos<s.size then pos::bN s n (pos+(b s pos).2) else []
def Si (s:j)(bs B:k)(pos:k)(args:Array Value)(X:World):Prop:=
 pos<s.size/\∃b3 b4,bs<b3/\B<b3/\b3<b4/\args=#[o .i64 pos,.func (.func 164) #[] #[c (some ⟨bs,0,none⟩),c (some ⟨b3,0,none⟩),c (some ⟨b4,0,none⟩)]]/\
  Bx X bs #[.string s]/\Bx X b3 #[o .i64 pos]/\Bx X b4 #[.int .i32 (b s pos).1]
theorem width_pos (s:j)(pos:k)(h:pos<s.size):1<=(b s pos).2:=by
 by_cases ha:(s[pos]'h).toNat<128
 .rw[decode_ascii s pos h ha]
  exact aA _
 .exact(decode_high s pos h ah).2
theorem jV (W:World)(s:j):Below W.1.size W (W.iter s 0):=(Below.refl _ _).alloc (aA _) _
theorem adG:∀args w,(callFunc 163 args).run m w= .ok (.enter 163 args) w:=enters_of func163 av rfl
attribute [local go_sem] Oper.semAt_some
theorem Un (s:j)(bs:k)(D:k->Prop)(W:World)(hs:Bx W bs #[.string s])(WQ:D bs)(hDo:D W.1.size):
  Iter m 163 #[c (some ⟨bs,0,none⟩)] (Si s bs W.1.size) 1 D (bN s s.size 0) W:=by
 intro n l J Jx hJ hJx hY h0;refine callsIn_of_wp func163 rfl trivial ?_ rfl;simp only[ntmps163,zD,jd,mg,Nat.reduceAdd,Nat.reduceSub,A9,Ba,xV,xU,j3,gF];have hc:=hs.1
 gi_wp2
 gi_loopw [] (λwr=>∃(pos fuel:k)(pre:List k),pre++bN s fuel pos=bN s s.size 0/\wr.1[W.1.size]?=some (.stringIter s pos)/\J pre wr/\Bx wr bs #[.string s]/\s.size<=pos+fuel) (λwr=>s.size - wr.iterPos W.1.size)
 case atStart=>
  refine⟨0,s.size,[],rfl,World.iter_heap W s 0,?_,hs.keep (jV W s),by omega⟩;exact hJ _ _ _ h0 (.of_below (jV W s) (λi _ hi=>hi))
 case round=>
  obtain⟨pos,fuel,pre,hpre,hit,hj,hsr,hfu⟩:=hrel;have hlt:W.1.size<wr.1.size:=(dI.1 hit).1;by_cases hp:pos<s.size
  .have hnx:∀ty,(Instr.next (c (some ⟨W.1.size,0,none⟩)) true ty).run m wr=_:=λty=>Lib.run_next_any_at wr W.1.size s pos ty hit hp
   have hwd:=width_pos s pos hp;obtain⟨f,rfl⟩:∃f,fuel=f+1:=⟨fuel - 1,by omega⟩;have Kl:bN s (f+1) pos=pos::bN s f (pos+(b s pos).2):=by simp[bN,hp]
   rw[Kl] at hpre;have hit2:=Lib.iterAt_heap wr W.1.size s pos (pos+(b s pos).2) hit;obtain⟨X,hX⟩:∃X,X=((wr.iterAt W.1.size s (pos+(b s pos).2)).alloc (.cells #[o .i64 pos] 3)).alloc (.cells #[.int .i32 (b s pos).1] 21):=⟨_,rfl⟩;have hbX:Below wr.1.size (wr.iterAt W.1.size s (pos+(b s pos).2)) X:=by
    rw[hX];exact((Below.refl _ _).alloc (by rw[g];exact aA _) _).alloc (by simp[g]) _
   have WR:X.1.size=wr.1.size+2:=by rw[hX];simp[g]
   have hsame:∀i,i<wr.1.size->i≠W.1.size->X.1[i]?=wr.1[i]?:=λi hi hne=>(hbX.block i hi).trans (Lib.iterAt_other wr _ i s _ hne)
   have WS:J pre X:=hJ _ _ _ hj ⟨hbX.os,hbX.tape,hbX.output,by omega,λi hor hi=>hsame i hi ah⟩;have hneb:bs≠W.1.size:=by have:=hs.2.2;omega
   have Uo:Bx X bs #[.string s]:=⟨λi=>(World.cell?_of_block (a:=⟨bs,i,none⟩) (hsame bs hsr.2.2 hneb)).trans (hsr.1 i),λi=>(World.frozen?_of_block (a:=⟨bs,i,none⟩) (hsame bs hsr.2.2 hneb)).trans (hsr.2.1 i),by rw[WR];have:=hsr.2.2;omega⟩;have hX3:Bx X wr.1.size #[o .i64 pos]:=by
    have:=(Bx.new (wr.iterAt W.1.size s (pos+(b s pos).2)) #[o .i64 pos] 3).alloc (.cells #[.int .i32 (b s pos).1] 21);rw[g,<-hX] at this;exact this
   have hX4:Bx X (wr.1.size+1) #[.int .i32 (b s pos).1]:=by
    have:=Bx.new ((wr.iterAt W.1.size s (pos+(b s pos).2)).alloc (.cells #[o .i64 pos] 3)) #[.int .i32 (b s pos).1] 21;rw[World.size_alloc,g,<-hX] at this;exact this
   have agt:X.1[W.1.size]?=some (.stringIter s (pos+(b s pos).2)):=(hbX.block _ hlt).trans hit2;obtain⟨fn,tmps,assign,body,hy,hR⟩:=hY pre pos #[o .i64 pos,.func (.func 164) #[] #[c (some ⟨bs,0,none⟩),c (some ⟨wr.1.size,0,none⟩),c (some ⟨wr.1.size+1,0,none⟩)]] X WS
    ⟨bN s f (pos+(b s pos).2),by rw[<-hpre];simp⟩ ⟨hp,wr.1.size,wr.1.size+1,hsr.2.2,hlt,by omega,rfl,Uo,hX3,hX4⟩ ah (n - 1)
   have hc2:=Uo.1;have HA:=hid hX;have HK:=hid Uo;have HZ:=hid (⟨hpre,agt,hlt,hfu,hwd,WR,hit⟩:_/\_/\_/\_/\_/\_/\_);rw[hX] at hy hR;have asO:=g wr W.1.size s (pos+(b s pos).2);have hcr:=hsr.1;clear hX hbX WR hsame WS Uo hX3 hX4 agt hsr hj hpre hfu hwd hit2 Kl
   gi_wp2
   refine⟨λh=>(by cases h),?_⟩;refine hR.mono ?_;rintro e W' (⟨rfl,hJ',hk⟩|⟨rfl,F5,_⟩)
   .clear hR hy
    have hit3:W'.1[W.1.size]?=some (.stringIter s (pos+(b s pos).2)):=by
     have h1:=HZ.q;have h2:=HA.q;rw[<-h2] at hk;exact(hk.2 _ hDo ah).trans h1.2.1
    have Uq:Bx W' bs #[.string s]:=by
     have h1:=HK.q;have h2:=HA.q;rw[<-h2] at hk;exact⟨λi=>(World.cell?_of_block (a:=⟨bs,i,none⟩) (hk.2 _ WQ h1.2.2)).trans (h1.1 i),λi=>(World.frozen?_of_block (a:=⟨bs,i,none⟩) (hk.2 _ WQ h1.2.2)).trans (h1.2.1 i),dz h1.2.2 hk.1⟩
    clear hk
    gi_wp2
    go_roundw
    case rel=>exact⟨pos+(b s pos).2,f,pre++[pos],by rw[<-HZ.q.1];simp,hit3,hJ',Uq,by have:=HZ.q;omega⟩
    case measure=>
     have:=HZ.q;simp only[World.iterPos,hit3,this.2.2.2.2.2.2];omega
   .clear hR hy
    gi_wp2
    refine bodyPost_ret (results_none rfl _ _ _) rfl ?_;exact⟨_,rfl,.inr ⟨pre++[pos],⟨bN s f (pos+(b s pos).2),by rw[<-HZ.q.1];simp⟩,F5⟩⟩
  .have hnx:∀ty,(Instr.next (c (some ⟨W.1.size,0,none⟩)) true ty).run m wr=_:=λty=>Lib.run_next_end_at wr W.1.size s pos ty hit hp
   gi_wp2
   go_end0
   refine⟨_,rfl,.inl ?_⟩;have:bN s fuel pos=[]:=by cases fuel <;> simp[bN,hp]
   rw[this,fw] at hpre;rw[<-hpre];exact hj
end Yd
namespace Yd
open Go Go.RowKit Go.Proofs Tryz
open Below renaming heap_setCell->d,refl->f
open Go.Obj renaming cells->a
attribute [local go_sem] Oper.semAt_some
theorem WT (s:ByteArray)(w:World):Calls Tryz.prog 134 #[.string s] w λe w'=>e= .returned (.func (.func 163) #[] #[.pointer (some ⟨w.1.size,0,none⟩)])/\w'=w.alloc (a #[.string s] 9):=by
 go_enter func134,ntmps134;go_wp2_with fail;go_ret;exact⟨rfl,rfl⟩
def qj (s:ByteArray)(p:Int->Bool)(pos:Nat):Bool:=!(okB s pos && p (Utf8.decode s pos).1)
def iy (s:ByteArray)(p:Int->Bool):Nat:=((bN s s.size 0).find? (qj s p)).getD s.size
theorem ZB {l pre:List Nat}{x:Nat}{q:Nat->Bool}(h:pre++[x]<+:l)(ha:∀y∈pre,q y=false)(hx:q x=true):l.find? q=some x:=by
 obtain⟨t,rfl⟩:=h;rw[eG,List.find?_append,List.find?_eq_none.2 (λy hy=>by simp[ha y hy])];simp[hx]
theorem Bx.set1 {X:World}{b:Nat}{u:Value}(h:Bx X b #[u])(v:Value):Bx (X.setCell ⟨b,0,none⟩ v) b #[v]:=by
 refine⟨λi=>?_,λi=>by rw[World.frozen?_setCell];exact h.2.1 i,by have:=h.2.2;simpa[World.setCell] using this⟩
 cases i with
 |zero=>exact World.cell?_setCell_same' _ _ _ (by rw[h.1 0];rfl)
 |succ i=>rw[World.cell?_setCell_other _ _ _ _ au];rw[h.1 (i+1)];simp
theorem xJ (s:ByteArray)(gf:Nat)(lb:Array Value)(eg:∀args w,(callFunc gf args).run Tryz.prog w= .ok (.enter gf args) w)(p:Int->Bool)(w:World)
  (hp:∀(r:Int) W',Below w.1.size w W'->Calls Tryz.prog gf (#[.int .i32 r]++lb) W' (cK (.bool (p r)) W')) (hT:Lib.Utf8Tabs 5 6 w):
  Calls Tryz.prog 107 #[.string s,.func (.func gf) #[] lb] w (cK (.int .i64 (iy s p)) w):=by
 refine(callsIn_wide (n:=3)).1 ?_;refine callsIn_of_wp_marks func107 rfl trivial ?_ rfl;simp only[ntmps107,zD,jd,mg,Nat.reduceAdd,Nat.reduceSub,A9,Ba,xV,xU,j3,gF];refine wpIn_wide.2 ?_;go_wp2_with fail
 go_step3
 go_wp2_with fail
 go_step3
 go_wp2_with (go_at_call 134;refine(WT _ _).mono ?_;rintro e w' ⟨rfl,rfl⟩)
 have hs1:((w.alloc (a #[.func (.func gf) #[] lb] 164)).alloc (a #[.int .i64 s.size] 3)).1.size=w.1.size+2:=by simp
 have Bc:(((w.alloc (a #[.func (.func gf) #[] lb] 164)).alloc (a #[.int .i64 s.size] 3)).alloc (a #[.string s] 9)).1.size=w.1.size+3:=by simp
 have FH:Below w.1.size w (((w.alloc (a #[.func (.func gf) #[] lb] 164)).alloc (a #[.int .i64 s.size] 3)).alloc (a #[.string s] 9)):=
  (((f w.1.size w).alloc (aA _) _).alloc au _).alloc (by simp;omega) _
 have uq:Bx (((w.alloc (a #[.func (.func gf) #[] lb] 164)).alloc (a #[.int .i64 s.size] 3)).alloc (a #[.string s] 9)) w.1.size #[.func (.func gf) #[] lb]:=
  ((Bx.new w #[.func (.func gf) #[] lb] 164).alloc _).alloc _
 have hV1:Bx (((w.alloc (a #[.func (.func gf) #[] lb] 164)).alloc (a #[.int .i64 s.size] 3)).alloc (a #[.string s] 9)) (w.1.size+1) #[.int .i64 s.size]:=by
  have:=(Bx.new (w.alloc (a #[.func (.func gf) #[] lb] 164)) #[.int .i64 s.size] 3).alloc (a #[.string s] 9);rw[World.size_alloc] at this;exact this
 have hV2:Bx (((w.alloc (a #[.func (.func gf) #[] lb] 164)).alloc (a #[.int .i64 s.size] 3)).alloc (a #[.string s] 9)) (w.1.size+2) #[.string s]:=by
  have:=Bx.new ((w.alloc (a #[.func (.func gf) #[] lb] 164)).alloc (a #[.int .i64 s.size] 3)) #[.string s] 9;rw[hs1] at this;exact this
 clear hs1;revert Bc FH uq hV1 hV2;generalize((w.alloc (a #[.func (.func gf) #[] lb] 164)).alloc (a #[.int .i64 s.size] 3)).alloc (a #[.string s] 9)=V;intro Bc FH uq hV1 hV2;refine wpIn_wide.1 (Mj (n:=3) (gf:=163) (lb:=#[.pointer (some ⟨w.1.size+2,0,none⟩)]) (by simp[go_sem]) adG
  (vS:=Si s (w.1.size+2) (V.1.size+2)) (k:=1) (D:=λi=>i<w.1.size\/i=w.1.size+2\/i=w.1.size+5) (xs:=bN s s.size 0)
  (λW hW hWs=>by have:=Un s (w.1.size+2) (λi=>i<w.1.size\/i=w.1.size+2\/i=w.1.size+5) W (hV2.keep hW) (.inr (.inl rfl)) (.inr (.inr ah));rw[hWs] at this;exact this) ah
  (λx args X h=>by obtain⟨_,_,_,_,_,_,rfl,_⟩:=h;rfl)
  (λpre X=>Below w.1.size w X/\Bx X w.1.size #[.func (.func gf) #[] lb]/\Bx X (w.1.size+1) #[.int .i64 s.size]/\∀y∈pre,qj s p y=false)
  (λc pre X=>c= .exit 0/\Below w.1.size w X/\∃pos pre',pre=pre'++[pos]/\(∀y∈pre',qj s p y=false)/\qj s p pos=true/\Bx X (w.1.size+1) #[.int .i64 pos])
  (λpre X Y h k=>⟨k.below h.1 (λi hi=> .inl ah) h.1.size,k.bx h.2.1 (.inl ah),k.bx h.2.2.1 (.inl ah),h.2.2.2⟩)
  (λc pre X Y h k=>by
   obtain⟨h1,h2,pos,pre',h3,h4,h5,h6⟩:=h;exact⟨h1,k.below h2 (λi hi=> .inl ah) h2.size,pos,pre',h3,h4,h5,k.bx h6 (.inl ah)⟩)
  ⟨FH,uq,hV1,λ_ h=>by cases h⟩ ?round ?done ?stop)
 case done=>
  rintro X ⟨hb,h0,h1,hall⟩ hdef;have hc:=h1.1;simp only[Exit.inBlock,Exit.then];go_wp2_with fail;refine⟨by simp,.inl ⟨_,_,rfl,run_takeDeferred hdef,?_⟩⟩;refine⟨_,results_tmp rfl _ _ _,?_,(Same.putObj (A:=λi=>i<w.1.size) X _ ah).below hb (λi hi=>hi) hb.size⟩;rw[iy,List.find?_eq_none.2 (λy hy=>by simp[hall y hy])];rfl
 case stop=>
  rintro c pre X hpre ⟨rfl,hb,pos,pre',rfl,hall,hst,h1⟩ hdef;have hc:=h1.1;refine wpIn_wide.2 ?_;go_wp2_with fail;refine⟨by simp,.inl ⟨_,_,rfl,run_takeDeferred hdef,?_⟩⟩;refine⟨_,results_tmp rfl _ _ _,?_,(Same.putObj (A:=λi=>i<w.1.size) X _ ah).below hb (λi hi=>hi) hb.size⟩;rw[iy,ZB hpre hall hst];rfl
 case round=>
  rintro pre pos args X ⟨hb,h0,h1,hall⟩ hpre ⟨hps,b3,b4,hb3,hB3,hb4,rfl,hxs,hx3,hx4⟩ hsz m
  gi_wp2
  refine⟨f _ _,λX2 hk=>?_⟩;have hb2:Below w.1.size w X2:=hk.below hb (λi hi=>by omega) hb.size;have h02:=hk.bx h0 ah;have h12:=hk.bx h1 ah;have hs2:=hk.bx hxs ah;have h32:=hk.bx hx3 ah;have h42:=hk.bx hx4 ah;have hT2:Lib.Utf8Tabs 5 6 X2:=Utf8Tabs_below hT hb2;have HZ:=hid (show V.1.size+3<=X2.1.size by have:=hk.size;omega);have HR:=hid (agr s pos hps (w.1.size+2) b3 b4 X2 hs2 h32 h42 hT2);have HB:=hid hb2;have H0:=hid h02;have H1:=hid h12;clear hs2 h32 h42 hT2 hb2 h02 h12 hk hxs hx3 hx4 hb h0 h1
  gi_wp2
  refine⟨trivial,λh=>(by cases h),?_⟩;refine(CallsIn.inRound _ (callsIn_wide.2 HR.q)).mono ?_;rintro e W3 ⟨rfl,hb3⟩;have HB3:=hid (HB.q.bO hb3);have WU:=hid (H0.q.keep hb3);have Kw:=hid (H1.q.keep hb3);have J5:=hid hb3;have h03:=(WU.q).1;clear hb3;have h13:=Kw.q.1;have f13:=Kw.q.2.1
  cases hok:okB s pos
  .have HO:=hid hok;clear hok
   gi_wp2
   refine⟨λ_ h=>(by cases h),?_⟩
   gi_wp2
   exact⟨⟨(d _ _ _ _ (by simp;omega)).trans (J5.q.block _ (by have:=HZ.q;omega)),(d _ _ _ _ (by simp;omega)).trans (J5.q.block _ (by have:=HZ.q;omega))⟩,
    (bg.of_below J5.q (λi _ hi=>hi)).trans ⟨by simp[World.setCell],λi hi _=>d _ _ _ _ (by simp;omega)⟩,rfl,HB3.q.setCell (p:=⟨w.1.size+1,0,none⟩) au _,pos,pre,rfl,hall,by simp[qj,HO.q],Kw.q.set1 _⟩
  .cases hpr:p (Utf8.decode s pos).1
   .have HO:=hid hok;have HP:=hid hpr
    clear hok hpr
    gi_wp2
    refine⟨trivial,λh=>(by cases h),?_⟩;refine(CallsIn.inRound _ (callsIn_wide.2 (hp _ _ HB3.q))).mono ?_;rintro e W4 ⟨rfl,hb4⟩;rw[HP.q];have fU:=hid (HB3.q.bO hb4);have H04:=hid (WU.q.keep hb4);have WV:=hid (Kw.q.keep hb4);have J6:=hid (J5.q.bO hb4);have h14:=WV.q.1;have f14:=WV.q.2.1;clear hb4 h13 h03 f13
    gi_wp2
    exact⟨⟨(d _ _ _ _ (by simp;omega)).trans (J6.q.block _ (by have:=HZ.q;omega)),(d _ _ _ _ (by simp;omega)).trans (J6.q.block _ (by have:=HZ.q;omega))⟩,
     (bg.of_below J6.q (λi _ hi=>hi)).trans ⟨by simp[World.setCell],λi hi _=>d _ _ _ _ (by simp;omega)⟩,rfl,fU.q.setCell (p:=⟨w.1.size+1,0,none⟩) au _,pos,pre,rfl,hall,by simp[qj,HO.q,HP.q],WV.q.set1 _⟩
   .have HO:=hid hok;have HP:=hid hpr
    clear hok hpr
    gi_wp2
    refine⟨trivial,λh=>(by cases h),?_⟩;refine(CallsIn.inRound _ (callsIn_wide.2 (hp _ _ HB3.q))).mono ?_;rintro e W4 ⟨rfl,hb4⟩;rw[HP.q];have fU:=hid (HB3.q.bO hb4);have H04:=hid (WU.q.keep hb4);have WV:=hid (Kw.q.keep hb4);have J6:=hid (J5.q.bO hb4);clear hb4 h13 h03 f13
    gi_wp2
    exact⟨⟨J6.q.block _ (by have:=HZ.q;omega),J6.q.block _ (by have:=HZ.q;omega)⟩,bg.of_below J6.q (λi _ hi=>hi),fU.q,H04.q,WV.q,λy hy=>by
     rcases bJ.1 hy with h|h
     .exact hall y h
     .obtain rfl:y=pos:=by simpa using h
      simp[qj,HO.q,HP.q]⟩
end Yd
namespace Yd
open Go Go.RowKit Go.Proofs Tryz
theorem K8:∀args w,(callFunc 108 args).run Tryz.prog w= .ok (.enter 108 args) w:=enters_of func108 av rfl
def uN (s:ByteArray):Int:=if h:0<s.size then wrap32 (s[0]'h).toNat else 0
def bD (s:ByteArray):Bool:=!s.toList.isEmpty && decide ((s.size:Int)<=24) && !gq (uN s) && decide (iy s jY=s.size)
theorem Fw (s:ByteArray)(h:¬s.toList=[]):0<s.size:=by
 rcases Nat.eq_zero_or_pos s.size with h0|h0
 .have e:s=ByteArray.empty:=by simpa using h0
  subst e;exact absurd au h
 .exact h0
theorem Ji (s:ByteArray)(w:World)(hT:Lib.Utf8Tabs 5 6 w):Calls Tryz.prog 66 #[.string s] w (cK (.bool (bD s)) w):=by
 by_cases h0:s.toList=[]
 .have hq:bD s=false:=by simp[bD,h0]
  rw[hq];clear hq hT;go_enter func66,ntmps66;go_wp2_with fail;go_ret;exact⟨rfl,Below.refl _ _⟩
 have h1:s.toList.isEmpty=false:=by simp[h0]
 have hs:=Fw s h0;by_cases wB:(s.size:Int)<=24
 .obtain⟨R,hR⟩:∃R:Bool,R=decide (iy s jY=s.size):=⟨_,rfl⟩
  have hq:bD s=(!gq (uN s) && R):=by simp[bD,h1,wB,hR]
  have hf:uN s=wrap32 (s[0]'hs).toNat:=by simp[uN,hs]
  rw[hq,hf];have HT:=hid hT;have HR:=hid hR;clear hq hf hT hR
  cases hn:gq (wrap32 (s[0]'hs).toNat)
  all_goals
   have HN:=hid hn;clear hn;go_enter func66,ntmps66;go_wp2_with fail;refine(nV _ _).mono ?_;rintro e w1 ⟨rfl,hb1⟩;rw[HN.q];have HB:=hid hb1;clear hb1;go_wp2_with fail
  .refine(xJ s 108 #[] K8 jY w1 (λr W' _=>EC r W') (Utf8Tabs_below HT.q HB.q)).mono ?_
   rintro e w2 ⟨rfl,hb2⟩;go_wp2_with fail;go_ret;refine⟨?_,HB.q.bO hb2⟩;rw[HR.q];by_cases hw:iy s jY=s.size
   .simp[hw]
   .have h2:¬((iy s jY:Int)=s.size):=by omega
    simp[hw,h2]
  .go_ret
   exact⟨rfl,HB.q⟩
 .have hq:bD s=false:=by simp[bD,wB]
  rw[hq];clear hq hT;have anX:24<(s.size:Int):=by omega
  clear wB;go_enter func66,ntmps66;go_wp2_with fail;go_ret;exact⟨rfl,Below.refl _ _⟩
end Yd
namespace Yd
open List renaming range->C,range_succ->I
open Option renaming some->f,none->y
open Go Go.RowKit Go.Proofs Go.Maps Tryz
open Go renaming World->u
open Go.Value renaming string->A,slice->H,bool->M
open Go.WideMaps renaming keyOf_string_mk->B
open Tryz renaming prog->d,underlying9->t
open World renaming cell?_of_block->p,ownsMap_made->G
open _root_ renaming trivial->E
def wZ (W:u)(b:Nat)(ns:List Bs):Prop:=∃D:DataW Unit,IsMap D/\W.ownsMap d 9 (plainElem d 4) b ns.length D/\∀s:Bs,D.atKey (.string s) (.lit (.bool false))= .lit (.bool (decide (s∈ns)))
theorem wZ.new (w:u):wZ (w.alloc (.map #[] 0)) w.1.size []:=⟨.map [],⟨[],rfl⟩,G _ _ _ _,λs=>by simp[DataW.atKey]⟩
theorem ZC (w:u):(zeroValue 4).run d w= .ok (M false) w:=av
theorem wZ.look {W:u}{b:Nat}{ns:List Bs}(h:wZ W b ns)(s:Bs)(hs:s.length<=24):(Instr.lookup 135 (.map (f b)) (A ⟨s.toArray⟩) false).run d W= .ok (M (decide (s∈ns))) W:=by
 obtain⟨D,_,hown,hat⟩:=h;have hkey:keyOf d 9 (A ⟨s.toArray⟩)=f (.string s):=by
  have:=B (P:=d) (k:=9) t (s:=⟨s.toArray⟩) (by unfold maxLen;simp[ByteArray.size];omega)
  simpa using this
 obtain⟨v,ps,hrun,hv⟩:=hown.lookup (string_keyed t) underlying135 (ZC W) (plainElem_bool underlying4 false) hkey;rw[hat s] at hv;have hb:v= M (decide (s∈ns)):=by
  unfold plainElem at hv;simp only[underlying4] at hv
  cases v <;> simp at hv
  rw[hv.1]
 rw[hrun,hb]
theorem wZ.put {W:u}{b:Nat}{ns:List Bs}(h:wZ W b ns)(s:Bs)(hs:s.length<=24)(hn:ns.length<maxLen):
  ∃w',(Instr.mapUpdate 135 (.map (f b)) (A ⟨s.toArray⟩) (M true)).run d W= .ok () w'/\wZ w' b (ns++[s])/\W.grownBy w' (f b):=by
 obtain⟨D,hD,hown,hat⟩:=h;have hkey:keyOf d 9 (A ⟨s.toArray⟩)=f (.string s):=by
  have:=B (P:=d) (k:=9) t (s:=⟨s.toArray⟩) (by unfold maxLen;simp[ByteArray.size];omega)
  simpa using this
 obtain⟨w',hrun,r1,r2⟩:=hown.update (string_keyed t) underlying135 hn hkey (plainElem_bool underlying4 true);refine⟨w',hrun,⟨D.put (.string s) (.lit (.bool true)),hD.put _ _,by simpa using r1,λx=>?_⟩,r2⟩;by_cases hx:x=s
 .subst hx
  rw[atKey_put_same hD (by trivial)];simp
 .rw[atKey_put_other (by simpa using hx),hat x];simp[hx]
theorem wZ.of_eq {W W':u}{b:Nat}{ns:List Bs}(h:wZ W b ns)(e:W'.1[b]?=W.1[b]?):wZ W' b ns:=by
 obtain⟨D,hD,⟨es,clock,hb,F,hs,hd⟩,hat⟩:=h;exact⟨D,hD,⟨es,clock,e.trans hb,F,hs,hd⟩,hat⟩
theorem wZ.lt {W:u}{b:Nat}{ns:List Bs}(h:wZ W b ns):b<W.1.size:=by
 obtain⟨D,hD,hown,hat⟩:=h;exact hown.lt
theorem Bx.of_eq {X Y:u}{b:Nat}{cs:Array Value}(h:Bx X b cs)(hs:X.1.size<=Y.1.size)(e:Y.1[b]?=X.1[b]?):Bx Y b cs:=
 ⟨λi=>(p (a:=⟨b,i,y⟩) e).trans (h.1 i),λi=>(World.frozen?_of_block (a:=⟨b,i,y⟩) e).trans (h.2.1 i),dz h.2.2 hs⟩
theorem Bx.grown {X w':u}{b:Nat}{cs:Array Value}{row:Option Nat}(h:Bx X b cs)(hg:X.grownBy w' row)(hne:row≠f b):Bx w' b cs:=
 h.of_eq hg.size (hg.block b h.2.2 (λe=>hne e.symm))
theorem F3 {s:Bs}(h:bD ⟨s.toArray⟩=true):s.length<=24:=by
 simp only[bD,aU,bf] at h;have:=h.1.1.2;simp[ByteArray.size] at this;omega
theorem Pe (s:Bs)(w:u)(hT:Lib.Utf8Tabs 5 6 w):Calls d 31 #[A ⟨s.toArray⟩] w (cK (.int .i64 (if bD ⟨s.toArray⟩=true then 0 else 200)) w):=by
 have HW:=hid (Ji ⟨s.toArray⟩ w hT);obtain⟨R,hR⟩:∃R:Int,R=(if bD ⟨s.toArray⟩=true then 0 else 200):=⟨_,rfl⟩;rw[<-hR];have HR:=hid hR;clear hT hR;go_enter Tryz.func31,Tryz.ntmps31;go_wp2_with fail;refine HW.q.mono ?_;rintro e w1 ⟨rfl,hb⟩;have HB:=hid hb;clear hb
 cases h:bD ⟨s.toArray⟩
 .have hr:R=200:=by rw[HR.q,h];rfl
  subst hr;clear h;go_wp2_with fail;go_ret;exact⟨rfl,HB.q⟩
 .have hr:R=0:=by rw[HR.q,h];rfl
  subst hr;clear h;go_wp2_with fail;go_ret;exact⟨rfl,HB.q⟩
def tH (W:u)(b:Nat)(ns:List Bs):Prop:=∃D:DataW Unit,IsMap D/\W.ownsMap d 9 (plainElem d 4) b ns.length D/\(∀s:Bs,D.atKey (.string s) (.lit (.bool false))= .lit (.bool (decide (s∈ns))))/\(∀s:Bs,Maps.has D (.string s)=decide (s∈ns))/\Maps.size D=ns.length
theorem tH.s {W:u}{b:Nat}{ns:List Bs}(h:tH W b ns):wZ W b ns:=let⟨D,h1,h2,h3,_⟩:=h;⟨D,h1,h2,h3⟩
theorem tH.new (w:u):tH (w.alloc (.map #[] 0)) w.1.size []:=⟨.map [],⟨[],rfl⟩,G _ _ _ _,λs=>by simp[DataW.atKey],λs=>rfl,rfl⟩
theorem tH.of_eq {W W':u}{b:Nat}{ns:List Bs}(h:tH W b ns)(e:W'.1[b]?=W.1[b]?):tH W' b ns:=by
 obtain⟨D,hD,⟨es,clock,hb,F,hs,hd⟩,hat⟩:=h;exact⟨D,hD,⟨es,clock,e.trans hb,F,hs,hd⟩,hat⟩
theorem tH.lt {W:u}{b:Nat}{ns:List Bs}(h:tH W b ns):b<W.1.size:=h.s.lt
theorem tH.put {W:u}{b:Nat}{ns:List Bs}(h:tH W b ns)(s:Bs)(hs:s.length<=24)(hn:ns.length<maxLen)(hns:s∉ns):
  ∃w',(Instr.mapUpdate 135 (.map (f b)) (A ⟨s.toArray⟩) (M true)).run d W= .ok () w'/\tH w' b (ns++[s])/\W.grownBy w' (f b):=by
 obtain⟨D,hD,hown,hat,hhas,hsz⟩:=h;have hkey:keyOf d 9 (A ⟨s.toArray⟩)=f (.string s):=by
  have:=B (P:=d) (k:=9) t (s:=⟨s.toArray⟩) (by unfold maxLen;simp[ByteArray.size];omega)
  simpa using this
 have ajB:=hown.tidy (string_keyed t);obtain⟨w',hrun,r1,r2⟩:=hown.update (string_keyed t) underlying135 hn hkey (plainElem_bool underlying4 true);refine⟨w',hrun,⟨D.put (.string s) (.lit (.bool true)),hD.put _ _,by simpa using r1,λx=>?_,λx=>?_,?_⟩,r2⟩
 .by_cases hx:x=s
  .subst hx
   rw[atKey_put_same hD (by trivial)];simp
  .rw[atKey_put_other (by simpa using hx),hat x];simp[hx]
 .by_cases hx:x=s
  .subst hx
   rw[has_put_same hD (by trivial)];simp
  .rw[has_put_other (by simpa using hx),hhas x];simp[hx]
 .rw[size_put ajB,hhas s,aX hns,hsz,dH];rfl
theorem tH.len {W:u}{b:Nat}{ns:List Bs}(h:tH W b ns)(ty:TypeId):(Builtin.len_ #[135] ty #[.map (f b)]).run d W= .ok (.int .i64 (ns.length:Int)) W:=by
 obtain⟨D,_,hown,_,_,hsz⟩:=h;rw[hown.len underlying135,hsz]
theorem ZE (s:Bs)(mb b:Nat)(ns:List Bs)(w:u)(hx:Bx w mb #[.map (f b)])(hm:tH w b ns)(hs:s.length<=24)(hl:ns.length<=300)(hsn:s∉ns):
  Calls d 182 #[A ⟨s.toArray⟩,.pointer (f ⟨mb,0,y⟩)] w λe w'=>e= .returned (M true)/\tH w' b (ns++[s])/\w.grownBy w' (f b):=by
 have hlk:=hm.s.look s hs;rw[aX hsn] at hlk;obtain⟨w3,hput,xI,hg3⟩:=hm.put s hs (by unfold maxLen;omega) hsn;have hc:=hx.1;have HM:=hid (⟨xI,hg3⟩:_/\_);clear hm hsn xI hg3;go_enter func182,ntmps182;go_wp2_with fail;go_ret;exact⟨rfl,HM.q.1,HM.q.2⟩
attribute [local go_sem] Oper.semAt_some Oper.semAt_none wide_round
theorem adH:∀args w,(callFunc 181 args).run d w= .ok (.enter 181 args) w:=enters_of func181 av rfl
def ab1 (L:List Bs)(i:Nat)(args:Array Value)(_:u):Prop:=∃s,L[i]?=f s/\args=#[.int .i64 ((i+1:Nat):Int),A ⟨s.toArray⟩]
theorem ZF {α:Type}{X Y:u}{k:Nat}{enc:α->List Value}{a:Option Addr}{n c:Nat}{xs:List α}(h:Row X k enc a n c xs)(hb:∀g,(Value.slice a n c).ownBlock=f g->Y.1[g]?=X.1[g]?):Row Y k enc a n c xs:=
 ⟨h.1,h.2.1,h.2.2.1,h.2.2.2.1,λi x hx=>by
  obtain⟨b,o,rfl,hc⟩:=h.2.2.2.2 i x hx;exact⟨b,o,rfl,λj v hv=>(p (a:=⟨b,o+i*k+j,y⟩) (hb b rfl)).trans (hc j v hv)⟩⟩
theorem Ur {L:List Bs}{i:Nat}{s:Bs}(hn:L.Nodup)(hx:L[i]?=f s):s∉L.take i:=λhm=>by
 obtain⟨j,hj⟩:=List.getElem?_of_mem hm;have hji:j<i:=by have:=(bG.1 hj).1;rw[dN] at this;omega
 rw[List.getElem?_take_of_lt hji] at hj;obtain⟨h1,e1⟩:=bG.1 hj;obtain⟨h2,e2⟩:=bG.1 hx;exact GX.1 hn j i h1 h2 hji (e1.trans e2.symm)
theorem Mk {n i:Nat}{z:Int}(hz:z=((i+1:Nat):Int))(h:i<n):n - (RowKit.intOf (.int .i64 z)).toNat<n - (RowKit.intOf (.int .i64 (i:Int))).toNat:=by
 subst hz;show n - (((i+1:Nat):Int)).toNat<n - ((i:Int)).toNat;rw[kS,kS];omega
structure NbI (L:List Bs)(a:Option Addr)(c sb m0 i:Nat)(X:u):Prop where
 m:tH X m0 (L.take i)
 x:Bx X (m0+1) #[.map (f m0)]
 s:Bx X sb #[H a L.length c]
 r:Row X 1 encStr a L.length c L
theorem MZ (L:List Bs)(a:Option Addr)(c sb:Nat)(D:Nat->Prop)(W:u)(hr:Row W 1 encStr a L.length c L)(hsb:Bx W sb #[H a L.length c])
  (hDw:∀i,i<W.1.size->((f i=(Value.slice a L.length c).ownBlock/\0<L.length)\/i=sb)->D i) (hD0:D W.1.size) (hD1:D (W.1.size+1)) (hL:L.length<=300) (hw:∀s∈L,s.length<=24) (hn:L.Nodup):
  Iter d 181 #[.pointer (f ⟨sb,0,y⟩)] (ab1 L) 2 D (C L.length) W:=by
 intro n l J Jx hJ hJx hY h0;refine callsIn_of_wp func181 rfl E ?_ rfl;simp only[ntmps181,zD,jd,mg,Nat.reduceAdd,Nat.reduceSub,A9,Ba,xV,xU,j3,gF];have hmm:= @run_makeMap d;have kr:=aB (aB (Below.refl W.1.size W) (.map #[] 0)) (.cells #[.map (f W.1.size)] 135);have hc:=(hsb.keep kr).1;have qY:Hid (NbI L a c sb W.1.size 0 ((W.alloc (.map #[] 0)).alloc (.cells #[.map (f W.1.size)] 135))):=hid
  ⟨by rw[List.take_zero];exact(tH.new W).of_eq (Below.heap_alloc _ _ _ au),by have:=Bx.new (W.alloc (.map #[] 0)) #[.map (f W.1.size)] 135;rw[World.size_alloc] at this;exact this,hsb.keep kr,hr.below kr rfl⟩
 have hj0:=hJ _ _ _ h0 (.of_below kr (λi _ hi=>hi));have HR:=hid hr;have HJ0:=hid hj0;have HJ:=hid hJ;have HY:=hid hY;have Sj:=hid hDw;have HD:=hid (⟨hD0,hD1⟩:_/\_);have HL:=hid hL;have HW:=hid hw;have uD:=hid hn;have hsl:=hsb.2.2;clear hr hsb hJ hY h0 kr hj0 hDw hD0 hD1 hL hw hn hJx
 gi_wp2
 gi_loopw [10] (λv wr=>∃i:Nat,v= .int .i64 i/\i<=L.length/\J (C i) wr/\NbI L a c sb W.1.size i wr) (λv _=>L.length - (RowKit.intOf v).toNat)
 case atStart=>exact⟨0,rfl,aV _,HJ0.q,qY.q⟩
 case round=>
  obtain⟨i,rfl,hi,hj,hI⟩:=hrel;by_cases hlt:i<L.length
  .obtain⟨s,b,o,hx,rfl,hc'⟩:=hI.r.at_ hlt
   have h0:=hc' 0 _ rfl;simp only[jo,bM] at h0;have hcs:=hI.s.1;have hcx:=hI.x.1;have hbW:b<W.1.size:=by
    obtain⟨_,b',o',_,hab,hcW⟩:=HR.q.at_ hlt
    cases hab
    exact World.block_lt_of_cell? W _ (hcW 0 _ rfl)
   have htk:L.take i++[s]=L.take (i+1):=by rw[eO,hx];rfl
   have HI:=hid hI;have HJI:=hid hj;have HX:=hid hx;have bE:=hid hbW;have vU:=hid htk;have HWI:Hid (wrap64 ((i:Int)+1)=((i+1:Nat):Int)):=hid (by have:=HL.q;unfold wrap64;omega);have HSL:=hid hsl;clear hI hj hx hc' hc hbW htk
   gi_wp2
   refine Ju 99 [(0,0),(1,0),(2,0),(3,0),(4,0),(5,2),(6,0),(7,0),(8,0),(10,0),(11,0),(12,0),(13,0),(9,2),(14,2),(15,0),(16,0)] (λ_=>True) (λX=>X.cell? ⟨sb,0,y⟩=f (H (f ⟨b,o,y⟩) L.length c)/\X.cell? ⟨b,o+i,y⟩=f (A ⟨s.toArray⟩)/\X.cell? ⟨W.1.size+1,0,y⟩=f (.map (f W.1.size))) av av (trivial) (⟨hcs 0,h0,hcx 0⟩) ?_;refine qC ?_;refine Pf rfl rfl (λK hK=>?_);refine⟨λ_ _=>E,?_⟩;go_simp;refine⟨λh=>(by cases h),?_⟩;refine(callsIn_wide.2 (ZE s (W.1.size+1) W.1.size (L.take i) wr.drew HI.q.x (HI.q.m.of_eq rfl) (HW.q s (bQ HX.q)) (by rw[dN];have:=HL.q;omega) (Ur uD.q HX.q))).mono ?_;rintro e w3 ⟨rfl,xI,hg3⟩;rw[vU.q] at xI;have gD:=hid (⟨hg3.cell (hcs 0) (by have:=HSL.q;simp;omega),hg3.cell h0 (by have:=bE.q;simp;omega),hg3.cell (hcx 0) au⟩:w3.cell? ⟨sb,0,y⟩=f (H (f ⟨b,o,y⟩) L.length c)/\w3.cell? ⟨b,o+i,y⟩=f (A ⟨s.toArray⟩)/\w3.cell? ⟨W.1.size+1,0,y⟩=f (.map (f W.1.size)));have tY:=hid xI;have nu:=hid hg3;refine hK _ _ ⟨E,gD.q⟩ ?_;clear hK K xI hg3;refine qC ?_;refine Pf rfl rfl (λK hK=>?_);refine⟨λ_ _=>E,?_⟩;have hln:=tY.q.len;have hll:(L.take (i+1)).length=i+1:=by rw[dN];omega
   rw[hll] at hln;go_simp;refine hK _ _ ⟨E,gD.q⟩ ?_;clear hK K hln hll;refine Pf rfl rfl (λK hK=>?_);have hj3:=HJ.q _ _ _ HJI.q (⟨nu.q.os,nu.q.tape,nu.q.output,nu.q.size,λk hk hl=>nu.q.block k hl (by intro e;injection e with e;omega)⟩:Same (λi=>i<W.1.size\/W.1.size+2<=i) wr w3);have hpx:C i++[i]<+:C L.length:=by
    rw[<-I];exact List.prefix_iff_eq_take.2 (by rw[List.length_range,List.take_range,zF hlt])
   obtain⟨fn,tmps,assign,body,hy,hR⟩:=HY.q (C i) i #[.int .i64 ((i:Int)+1),A ⟨s.toArray⟩] w3 hj3 hpx ⟨s,HX.q,by simp⟩ (by have:=HI.q.x.2.2;have h2:=nu.q.size;have h3:wr.drew.1.size=wr.1.size:=rfl;omega) (n - 1);have HPX:=hid hpx;clear hj3 hpx;refine⟨λ_ _=>E,?_⟩;go_simp;refine⟨λh=>(by cases h),?_⟩;refine hR.mono ?_;rintro e W' (⟨rfl,hJ',hk⟩|⟨rfl,F5,hk⟩)
   .skip
    have HKK:=hid hk;have HJ2:=hid hJ';clear hR hy;have hkk:=hk.2;have hz3:wr.1.size<=w3.1.size:=nu.q.size;have Sk:=HI.q.x.2.2;have gM:=hid (⟨(p (a:=⟨sb,0,y⟩) (hkk sb (Sj.q sb HSL.q (.inr rfl)) (by have:=HSL.q;omega))).trans gD.q.1,(p (a:=⟨b,o+i,y⟩) (hkk b (Sj.q b bE.q (.inl ⟨rfl,by omega⟩)) (by have:=bE.q;omega))).trans gD.q.2.1,(p (a:=⟨W.1.size+1,0,y⟩) (hkk (W.1.size+1) HD.q.2 ah)).trans gD.q.2.2⟩:W'.cell? ⟨sb,0,y⟩=f (H (f ⟨b,o,y⟩) L.length c)/\W'.cell? ⟨b,o+i,y⟩=f (A ⟨s.toArray⟩)/\W'.cell? ⟨W.1.size+1,0,y⟩=f (.map (f W.1.size)));refine hK _ _ ⟨E,gM.q⟩ ?_;clear hK K hk hkk hz3 Sk hJ';refine qC ?_;refine aJ ?_
    gi_wp2
    go_roundw
    case rel=>
     have hz3:wr.1.size<=w3.1.size:=nu.q.size;have Sk:=HI.q.x.2.2;refine⟨i+1,dF (Value.int .i64) HWI.q,by omega,by rw[I];exact HJ2.q,⟨tY.q.of_eq (HKK.q.2 W.1.size HD.q.1 ah),?_,?_,?_⟩⟩
     .exact((HI.q.x.of_eq nu.q.size (nu.q.block _ HI.q.x.2.2 au)).of_eq HKK.q.1 (HKK.q.2 (W.1.size+1) HD.q.2 ah))
     .exact((HI.q.s.of_eq nu.q.size (nu.q.block _ HI.q.s.2.2 (by have:=HSL.q;simp;omega))).of_eq HKK.q.1 (HKK.q.2 _ (Sj.q sb HSL.q (.inr rfl)) (by have:=HSL.q;omega)))
     .exact ZF HI.q.r (λg hg=>by have hbg:f b=f g:=hg;injection hbg with hbg;subst hbg;exact(HKK.q.2 _ (Sj.q b bE.q (.inl ⟨rfl,by omega⟩)) (by have:=bE.q;omega)).trans (nu.q.block _ (by have:=bE.q;have:=HI.q.x.2.2;show _<wr.1.size;omega) (by have:=bE.q;simp;omega)))
    case measure=>exact Mk HWI.q hlt
   .skip
    clear hR hy;have hkk:=hk.2;have hz3:wr.1.size<=w3.1.size:=nu.q.size;have Sk:=HI.q.x.2.2;have gM:=hid (⟨(p (a:=⟨sb,0,y⟩) (hkk sb (Sj.q sb HSL.q (.inr rfl)) (by have:=HSL.q;omega))).trans gD.q.1,(p (a:=⟨b,o+i,y⟩) (hkk b (Sj.q b bE.q (.inl ⟨rfl,by omega⟩)) (by have:=bE.q;omega))).trans gD.q.2.1,(p (a:=⟨W.1.size+1,0,y⟩) (hkk (W.1.size+1) HD.q.2 ah)).trans gD.q.2.2⟩:W'.cell? ⟨sb,0,y⟩=f (H (f ⟨b,o,y⟩) L.length c)/\W'.cell? ⟨b,o+i,y⟩=f (A ⟨s.toArray⟩)/\W'.cell? ⟨W.1.size+1,0,y⟩=f (.map (f W.1.size)));have Dq:=hid F5;refine hK _ _ ⟨E,gM.q⟩ ?_;clear hK K hk hkk hz3 Sk F5;refine qC ?_;refine aJ ?_
    gi_wp2
    refine bodyPost_ret (results_none rfl _ _ _) rfl ?_;exact⟨_,rfl,.inr ⟨C i++[i],HPX.q,Dq.q⟩⟩
  .skip
   have hie:i=L.length:=by omega
   subst hie;have HJI:=hid hj;clear hI hj hc
   gi_wp2
   go_end0
   exact⟨_,rfl,.inl HJI.q⟩
end Yd
namespace Yd
open Go Go.RowKit Go.Proofs Go.Maps Tryz
open Below renaming heap_setCell->d,refl->r
open Go.Value renaming slice->f
open World renaming size_alloc->g,setCell->j
attribute [local go_sem] Oper.semAt_some
theorem QJ (a:Option Addr)(n c:Nat)(w:World):Calls Tryz.prog 166 #[f a n c] w λe w'=>e= .returned (.func (.func 181) #[] #[.pointer (some ⟨w.1.size,0,none⟩)])/\w'=w.alloc (.cells #[f a n c] 27):=by
 go_enter func166,ntmps166;go_wp2_with fail;go_ret;exact⟨rfl,rfl⟩
theorem ZG {pre:List Nat}{x n:Nat}(h:pre++[x]<+:List.range n):x=pre.length/\x<n:=by
 obtain⟨t,ht⟩:=h;have h1:(List.range n)[pre.length]?=some x:=by rw[<-ht];simp
 obtain⟨h2,h3⟩:=bG.1 h1;rw[List.getElem_range] at h3;rw[List.length_range] at h2;omega
structure Eu (L:List Bs):Prop where
 w:∀s∈L,bD ⟨s.toArray⟩=true
 n:L.Nodup
 l:L.length<=300
theorem Ky (L:List Bs)(a:Option Addr)(c:Nat)(w:World)(hr:Row w 1 encStr a L.length c L)(hL:Eu L)(hT:Lib.Utf8Tabs 5 6 w):
  Calls Tryz.prog 136 #[.agg #[f a L.length c]] w (cK (.int .i64 0) w):=by
 refine(callsIn_wide (n:=3)).1 ?_;refine callsIn_of_wp_marks func136 rfl trivial ?_ rfl;simp only[ntmps136,zD,jd,mg,Nat.reduceAdd,Nat.reduceSub,A9,Ba,xV,xU,j3,gF];refine wpIn_wide.2 ?_;go_wp2_with fail
 go_step3
 go_wp2_with fail
 go_step3
 go_wp2_with (go_at_call 166;refine(QJ _ _ _ _).mono ?_;rintro e w' ⟨rfl,rfl⟩)
 obtain⟨V,Pg⟩:∃V,V=((w.alloc (.cells #[f a L.length c] 58)).alloc (.cells #[.int .i64 0] 3)).alloc (.cells #[f a L.length c] 27):=⟨_,rfl⟩;rw[show w.1.size+1+1=w.1.size+2 from rfl,<-Pg];have Bc:V.1.size=w.1.size+3:=by rw[Pg];simp
 have FH:Below w.1.size w V:=by rw[Pg];exact aB (aB (aB (r _ _) _) _) _
 have uq:Bx V w.1.size #[f a L.length c]:=by rw[Pg];exact((Bx.new w _ _).alloc _).alloc _
 have hV1:Bx V (w.1.size+1) #[.int .i64 0]:=by
  rw[Pg];have:=(Bx.new (w.alloc (.cells #[f a L.length c] 58)) #[.int .i64 0] 3).alloc (.cells #[f a L.length c] 27);rw[g] at this;exact this
 have hV2:Bx V (w.1.size+2) #[f a L.length c]:=by
  rw[Pg];have:=Bx.new ((w.alloc (.cells #[f a L.length c] 58)).alloc (.cells #[.int .i64 0] 3)) #[f a L.length c] 27;rw[g,g] at this;exact this
 clear Pg;have hrb:∀i,some i=(Value.slice a L.length c).ownBlock->0<L.length->i<w.1.size:=λi hi h0=>by
  obtain⟨_,b,o,_,rfl,hc⟩:=hr.at_ h0;have h1:some i=some b:=hi;injection h1 with h1;subst h1;exact World.block_lt_of_cell? w _ (hc 0 _ rfl)
 refine wpIn_wide.1 (Mj (n:=3) (gf:=181) (lb:=#[.pointer (some ⟨w.1.size+2,0,none⟩)]) (by simp[go_sem]) adH
  (vS:=ab1 L) (k:=2) (D:=λi=>i<w.1.size\/i=w.1.size\/i=w.1.size+2\/i=w.1.size+5\/i=w.1.size+6) (xs:=List.range L.length)
  (λW hW hWs=>MZ L a c (w.1.size+2) _ W ((hr.below FH rfl).below hW rfl) (hV2.keep hW) (λi hi hor=>by
   rcases hor with hor|rfl
   .exact .inl (hrb i hor.1 hor.2)
   .exact .inr (.inr (.inl rfl))) (.inr (.inr (.inr (.inl ah)))) (.inr (.inr (.inr (.inr ah)))) hL.l (λs hs=>F3 (hL.w s hs)) hL.n) ah
  (λx args X hx=>by obtain⟨_,_,rfl⟩:=hx;rfl)
  (λpre X=>Below w.1.size w X/\Bx X w.1.size #[f a L.length c]/\Bx X (w.1.size+1) #[.int .i64 pre.length])
  (λc pre X=>False)
  (λpre X Y hh k=>⟨k.below hh.1 (λi hi=> .inl ah) hh.1.size,k.bx hh.2.1 (.inl ah),k.bx hh.2.2 (.inl ah)⟩)
  (λc pre X Y hh k=>hh.elim)
  ⟨FH,uq,hV1⟩ ?round ?done ?stop)
 case stop=>
  rintro c pre X hpre hh hdef;exact hh.elim
 case done=>
  rintro X ⟨hb,h0,h1⟩ hdef;rw[List.length_range] at h1;have hc:=h0.1;have hc1:=h1.1;have hl3:decide ((L.length:Int)>300)=false:=aX (by have:=hL.l;omega);have hl4:decide (300<(L.length:Int))=false:=aX (by have:=hL.l;omega);have hl5:decide (300<L.length)=false:=aX (by have:=hL.l;omega);have hne:((L.length:Int)!=(L.length:Int))=false:=by simp
  simp only[Exit.inBlock,Exit.then];go_wp2_with fail;refine⟨by simp,.inl ⟨_,_,rfl,run_takeDeferred hdef,?_⟩⟩;refine⟨_,results_tmp rfl _ _ _,?_,(Same.putObj (A:=λi=>i<w.1.size) X _ ah).below hb (λi hi=>hi) hb.size⟩
  rfl
 case round=>
  rintro pre x args X ⟨hb,h0,h1⟩ hpre ⟨s,hs,rfl⟩ hsz m;obtain⟨hxl,hxn⟩:=ZG hpre
  gi_wp2
  refine⟨r _ _,λX2 hk=>?_⟩;have hb2:Below w.1.size w X2:=hk.below hb (λi hi=>by omega) hb.size;have h02:=hk.bx h0 ah;have h12:=hk.bx h1 ah;have hwd:=hL.w s (bQ hs);have Kz:=hid (Pe s X2 (Utf8Tabs_below hT hb2));rw[ay hwd] at Kz;have HB:=hid hb2;have H0:=hid h02;have H1:=hid h12;have HK:=hid hk;clear hb2 h02 h12 hk hb h0 h1 hwd
  gi_wp2
  refine⟨trivial,λh=>(by cases h),?_⟩;refine(CallsIn.inRound _ (callsIn_wide.2 Kz.q)).mono ?_;rintro e W3 ⟨rfl,hb3⟩;have HB3:=hid (HB.q.bO hb3);have WU:=hid (H0.q.keep hb3);have Kw:=hid (H1.q.keep hb3);have ZH:=hid hb3;have h13:=Kw.q.1;have f13:=Kw.q.2.1;have HZ:=hid (show V.1.size+3<=X2.1.size by have:=HK.q.size;omega);clear hb3
  gi_wp2
  have hll:(((pre++[x]).length:Nat):Int)=(pre.length:Int)+1:=by rw[dH];rfl
  refine⟨⟨(d _ _ _ _ (by simp;omega)).trans (ZH.q.block _ (by have:=HZ.q;omega)),(d _ _ _ _ (by simp;omega)).trans (ZH.q.block _ (by have:=HZ.q;omega))⟩,
   (bg.of_below ZH.q (λi _ hi=>hi)).trans ⟨by simp[j],λi hi _=>d _ _ _ _ (by simp;omega)⟩,HB3.q.setCell (p:=⟨w.1.size+1,0,none⟩) au _,WU.q.of_eq (by simp[j]) (d _ _ _ _ au),?_⟩
  rw[hll];exact Kw.q.set1 _
end Yd
namespace Yd
open Go Go.RowKit Go.Proofs Go.Maps Tryz
open Go renaming bodyPost_ret->n,World->t
open Go.Obj renaming cells->j
open Go.Value renaming slice->f,int->m,string->r
open Yd renaming hid->d
def Gd (L:List Bs)(s:Bs):Int:=if s∈L then(L.idxOf s:Int) else -1
theorem WW (L:List Bs)(a:Option Addr)(c:Nat)(s:Bs)(w:t)(hr:Row w 1 encStr a L.length c L):
  Calls Tryz.prog 167 #[f a L.length c,r ⟨s.toArray⟩] w (cK (m .i64 (Gd L s)) w):=by
 have hle:=hr.le;have HR:=d hr;obtain⟨R,hR⟩:∃R,R=Gd L s:=⟨_,rfl⟩;rw[<-hR];have HRR:=d hR;clear hr hR;go_enter func167,ntmps167;go_wp2_with fail
 go_loopw [8] (λv wr=>∃i:Nat,v= m .i64 i/\i<=L.length/\s∉L.take i/\wr=w) (λv _=>L.length - (RowKit.intOf v).toNat)
 case atStart=>exact⟨0,rfl,aV _,by simp,rfl⟩
 case round=>
  obtain⟨i,rfl,hi,hni,rfl⟩:=hrel;by_cases hlt:i<L.length
  .obtain⟨x,b,o,hx,rfl,hc⟩:=HR.q.at_ hlt
   have h0:=hc 0 _ rfl;simp only[jo,bM] at h0;have NE:=d hni;have HX:=d hx;have HWI:Hid (wrap64 ((i:Int)+1)=((i+1:Nat):Int)):=d (by unfold wrap64;omega);by_cases hq:x=s
   .subst hq
    have hres:R=(i:Int):=by
     rw[HRR.q];unfold Gd;rw[ay (bQ HX.q)];have hg:=bG.1 HX.q;have h1:L=L.take i++x::L.drop (i+1):=by
      obtain⟨h1,h2⟩:=hg;rw[<-h2,List.getElem_cons_drop,Cg]
     have h2:(L.take i++x::L.drop (i+1)).idxOf x=i:=by
      rw[List.idxOf_append,ak NE.q];simp[dN];omega
     rw[<-h1] at h2;rw[h2]
    subst hres;clear hx hni hc;go_wp2_with fail;go_ret;exact⟨rfl,Below.refl _ _⟩
   .have hbe:(s==x)=false:=aR.2 (Ne.symm hq)
    have HQ:=d hq;have hnx:s∉L.take (i+1):=by
     rw[eO,HX.q];intro hm;rcases bJ.1 hm with hm|hm
     .exact NE.q hm
     .have:s=x:=by simpa using hm
      exact HQ.q this.symm
    have Fa:=d hnx;clear hx hni hc hq hnx;go_wp2_with fail;go_roundw
    case rel=>exact⟨i+1,by simp,by omega,Fa.q,trivial⟩
    case measure=>exact Mk (z:=(i:Int)+1) au hlt
  .have hie:i=L.length:=by omega
   subst hie;have hres:R= -1:=by
    rw[HRR.q];unfold Gd;rw[ak (by rw[List.take_length] at hni;exact hni)]
   subst hres;clear hni;go_wp2_with fail;go_ret;exact⟨rfl,Below.refl _ _⟩
theorem Us (L:List Bs)(a:Option Addr)(c:Nat)(s:Bs)(w:t)(hr:Row w 1 encStr a L.length c L)(hL:Eu L)(hT:Lib.Utf8Tabs 5 6 w):
  Calls Tryz.prog 137 #[.agg #[f a L.length c],r ⟨s.toArray⟩] w (cK (.tuple #[m .i64 (if s∈L then(L.idxOf s:Int) else 0),.bool (decide (s∈L))]) w):=by
 have hb0:=aB (Below.refl w.1.size w) (j #[f a L.length c] 58);have HIX:=d (WW L a c s _ (hr.below hb0 rfl));have HR:=d hr;have HT:=d hT;have HL:=d hL;have HB0:=d hb0;have HX0:=d (Bx.new w #[f a L.length c] 58);have HF:=d (λW (hb:Below w.1.size w W)=>Ky L a c W (hr.below hb rfl) hL (Utf8Tabs_below hT hb));obtain⟨A,hA⟩:∃A:Int,A=(if s∈L then(L.idxOf s:Int) else 0):=⟨_,rfl⟩;obtain⟨B,hB⟩:∃B:Bool,B=decide (s∈L):=⟨_,rfl⟩;rw[<-hA,<-hB];have HA:=d hA;have gy:=d hB;clear hb0 hr hT hL hA hB;go_enter func137,ntmps137;go_wp2_with fail;refine HIX.q.mono ?_;rintro e w1 ⟨rfl,hb1⟩;have HB1:=d (HB0.q.bO hb1);have hx1:=HX0.q.keep hb1;have hc1:=hx1.1;clear hb1;by_cases hm:s∈L
 .obtain⟨k,hk⟩:∃k,k=L.idxOf s:=⟨_,rfl⟩
  have e1:Gd L s=(k:Int):=by unfold Gd;rw[ay hm,hk]
  have e2:A=(k:Int):=by rw[HA.q,ay hm,hk]
  have e3:B=true:=by rw[gy.q,bA hm]
  subst e2 e3;rw[e1];have hd:decide ((k:Int)<0)=false:=aX ah;clear e1 hm hk;go_wp2_with fail;refine(HF.q _ HB1.q).mono ?_;rintro e w2 ⟨rfl,hb2⟩;have HB2:=d (HB1.q.bO hb2);clear hb2 hc1;go_wp2_with fail;refine n (v:= .tuple #[m .i64 (k:Int),.bool true]) (by simp[results,results137,go_sem]) rfl ?_;exact⟨rfl,HB2.q⟩
 .have e1:Gd L s= -1:=by unfold Gd;rw[ak hm]
  have e2:A=0:=by rw[HA.q,ak hm]
  have e3:B=false:=by rw[gy.q,aX hm]
  subst e2 e3;rw[e1];clear e1 hm;go_wp2_with fail;refine n (v:= .tuple #[m .i64 0,.bool false]) (by simp[results,results137,go_sem]) rfl ?_;exact⟨rfl,HB1.q⟩
theorem Row.st1 (w:t)(s:Bs):Row (w.alloc (j #[r ⟨s.toArray⟩] 9)) 1 encStr (some ⟨w.1.size,0,none⟩) 1 1 [s]:=
 (Own.new (hc:=jQ) w w.1.size 9 #[r ⟨s.toArray⟩] [s] (aA _) rfl (by simp[maxLen])).row au
def agx (L:List Bs)(s:Bs)(w:t)(e:Ending)(w':t):Prop:=
 Below w.1.size w w'/\if s∈L\/L.length<300 then ∃a' c',e= .returned (.tuple #[.agg #[f a' (cZ L s).length c'],m .i64 (nK L s:Int),m .i64 0])/\Own w' w.1.size 9 1 encStr (f a' (cZ L s).length c') (cZ L s)
  else e= .returned (.tuple #[.agg #[f none 0 0],m .i64 0,m .i64 6])
theorem Wv (L:List Bs)(a:Option Addr)(c:Nat)(s:Bs)(w:t)(hr:Row w 1 encStr a L.length c L)(hL:Eu L)(hs:bD ⟨s.toArray⟩=true)(hT:Lib.Utf8Tabs 5 6 w):
  Calls Tryz.prog 109 #[.agg #[f a L.length c],r ⟨s.toArray⟩] w (agx L s w):=by
 obtain⟨i,z,hi⟩:=uw;have HI:=d hi;clear hi;have HF:=d (λW (hb:Below w.1.size w W)=>Ky L a c W (hr.below hb rfl) hL (Utf8Tabs_below hT hb));have HN:=d (λW (hb:Below w.1.size w W)=>Us L a c s W (hr.below hb rfl) hL (Utf8Tabs_below hT hb));have HC:=d (λW (hb:Below w.1.size w W)=>(by have:=Pe s W (Utf8Tabs_below hT hb);rw[ay hs] at this;exact this:Calls Tryz.prog 31 #[r ⟨s.toArray⟩] W (cK (m .i64 0) W)));have HK:=d (λW (hb:Below w.1.size w W)=>zo a c L W (hr.below hb rfl) (by have:=hL.l;omega));have HB0:=d (aB (aB (Below.refl w.1.size w) (j #[f a L.length c] 58)) (j #[f none 0 0] 58));have HX0:Hid (Bx ((w.alloc (j #[f a L.length c] 58)).alloc (j #[f none 0 0] 58)) w.1.size #[f a L.length c]/\Bx ((w.alloc (j #[f a L.length c] 58)).alloc (j #[f none 0 0] 58)) (w.1.size+1) #[f none 0 0]):=d
  ⟨(Bx.new w _ _).alloc _,by have:=Bx.new (w.alloc (j #[f a L.length c] 58)) #[f none 0 0] 58;rw[World.size_alloc] at this;exact this⟩
 have j4:=d hL.l;clear hr hL hs hT;go_enter func109,ntmps109;have hc0:=HX0.q.1.1;go_wp2_with fail;refine(HF.q _ HB0.q).mono ?_;rintro e w1 ⟨rfl,hb1⟩;have HB1:=d (HB0.q.bO hb1);have bP:=d (⟨HX0.q.1.keep hb1,HX0.q.2.keep hb1⟩:_/\_);clear hb1 hc0;have hc0:=bP.q.1.1;go_wp2_with fail;refine(HC.q _ HB1.q).mono ?_;rintro e w2 ⟨rfl,hb2⟩;have HB2:=d (HB1.q.bO hb2);have bL:=d (⟨bP.q.1.keep hb2,bP.q.2.keep hb2⟩:_/\_);clear hb2 hc0;have hc0:=bL.q.1.1;go_wp2_with fail;refine(HK.q _ HB2.q).mono ?_;rintro e w3 ⟨a3,c3,rfl,how,hb3⟩;have HOW:=d how;have HS2:=d bL.q.2.2.2;have anY:=d hb3.size;have HB3:=d (HB2.q.bO hb3);have eX:=d (⟨bL.q.1.keep hb3,bL.q.2.keep hb3⟩:_/\_);clear hb3 hc0 how;have hc0:=eX.q.1.1;go_wp2_with fail;refine(HN.q _ HB3.q).mono ?_;rintro e w4 ⟨rfl,hb4⟩;have anZ:=d hb4.size;have fU:=d (HB3.q.bO hb4);have lu:=d (⟨eX.q.1.keep hb4,eX.q.2.keep hb4⟩:_/\_);have Ph:=d (HOW.q.below hb4 rfl);have HBS:=d (show w.1.size+1<w4.1.size from lu.q.2.2.2);clear hb4 hc0;have hc1:=lu.q.2.1;have hf1:=lu.q.2.2.1;by_cases hm:s∈L
 .obtain⟨k,hk⟩:∃k,k=L.idxOf s:=⟨_,rfl⟩
  have Aj:=d (⟨hm,hk⟩:_/\_);have e1:(if s∈L then(L.idxOf s:Int) else 0)=(k:Int):=by rw[ay hm,hk]
  have e2:decide (s∈L)=true:=bA hm;rw[e1,e2];clear e1 e2 hm hk;go_wp2_with fail;have hst:=lu.q.2.set1 (f a3 L.length c3);have hcs:=hst.1 0;refine n (v:= .tuple #[.agg #[f a3 L.length c3],m .i64 (k:Int),m .i64 0]) (by simp[results,results109,go_sem,hcs]) rfl ?_;refine⟨fU.q.setCell (p:=⟨w.1.size+1,0,none⟩) au _,?_⟩;rw[ay (.inl Aj.q.1),pU Aj.q.1,WX Aj.q.1,<-Aj.q.2];exact⟨a3,c3,rfl,(Ph.q.block (λg hg=>Below.heap_setCell _ _ _ _ (by have:=(Ph.q.lt g hg).1;have:=HS2.q;simp;omega))).mono HB2.q.size⟩
 .have e1:(if s∈L then(L.idxOf s:Int) else 0)=0:=by rw[ak hm]
  have e2:decide (s∈L)=false:=aX hm;rw[e1,e2];have HM:=d hm;clear e1 e2 hm;by_cases EF:L.length=300
  .have hq:((L.length:Int)==300)=true:=by rw[EF];rfl
   have hq2:(L.length==300)=true:=by rw[EF];rfl
   have hq3:decide (L.length=300)=true:=bA EF;have hq4:decide ((L.length:Int)=300)=true:=bA ah;have H3:=d EF;clear EF;go_wp2_with fail;have hst:=lu.q.2.set1 (f none 0 0);have hcs:=hst.1 0;refine n (v:= .tuple #[.agg #[f none 0 0],m .i64 0,m .i64 6]) (by simp[results,results109,go_sem,hcs]) rfl ?_;refine⟨fU.q.setCell (p:=⟨w.1.size+1,0,none⟩) au _,?_⟩;rw[ak (by have:=H3.q;rintro(h|h);exact HM.q h;omega)]
  .have hq:((L.length:Int)==300)=false:=aR.2 ah
   have hq2:(L.length==300)=false:=aR.2 EF;have hq3:decide (L.length=300)=false:=aX EF;have hq4:decide ((L.length:Int)=300)=false:=aX ah;have H3:=d EF;clear EF;have jG:Hid ((Value.slice a3 L.length c3).ownBlock≠some (w.1.size+1)):=d (λe=>by have:=(Ph.q.lt _ e).1;have:=HS2.q;omega);have fT:Hid ((L.length+1)*16<=140737488355328):=d (by have:=j4.q;omega);have lV:Hid (L.length+1<=maxLen):=d (by have:=j4.q;unfold maxLen;omega);have vZ:Hid (w2.1.size<=(w4.alloc (j #[r ⟨s.toArray⟩] 9)).1.size):=d (by have h1:=anY.q;have h2:=anZ.q;simp;omega)
   go_wp2_with (at_builtin;refine eB rfl _ _ 27 rfl i z 16 underlying27 HI.q.1 HI.q.2.1 HI.q.2.2.1 HI.q.2.2.2.1 HI.q.2.2.2.2 rfl (Ph.q.alloc _) (some ⟨w4.1.size,0,none⟩) 1 1 (L.length+1) [s] rfl (Row.st1 w4 s) rfl fT.q lV.q vZ.q ?_;intro a' c' w6 hown1 hg1 rz;have hx6:=(lu.q.2.alloc (j #[r ⟨s.toArray⟩] 9)).grown hg1 jG.q;have hc6:=hx6.1;have hf6:=hx6.2.1)
   have WY:Hid (∀g,(Value.slice a' (L.length+1) c').ownBlock=some g->g≠w.1.size+1):=d (λg hg e=>by
    have:=(hown1.lt g hg).1;have:=HS2.q;omega)
   have hbw:=below_app (fU.q.alloc fU.q.size _) (Ph.q.alloc _) HB2.q.size (dL HB2.q.size vZ.q) hg1;have hst:=hx6.set1 (f a' (L.length+1) c');have hcs:=hst.1 0;refine n (v:= .tuple #[.agg #[f a' (L.length+1) c'],m .i64 (L.length:Int),m .i64 0]) (by simp[results,results109,go_sem,hcs]) rfl ?_;refine⟨hbw.setCell (p:=⟨w.1.size+1,0,none⟩) au _,?_⟩;rw[ay (.inr (by have:=H3.q;have:=j4.q;omega)),Sm HM.q,nE HM.q,dH];exact⟨a',c',rfl,(hown1.block (λg hg=>Below.heap_setCell _ _ _ _ (by have:=WY.q g hg;simp;omega))).mono HB2.q.size⟩
end Yd
namespace Yd
open Go Go.RowKit Go.Proofs Tryz
def kD:List PanicEntry:=[⟨.iface 37 (.int .i64 6),false,false⟩]
theorem mK (b:Bool)(w:World):Calls Tryz.prog 70 #[.bool b] w λe w'=>w'=w/\e=if b=true then .returned (.tuple #[]) else .panicked kD:=by
 cases b
 .go_enter func70,ntmps70
  go_wp2
  exact⟨rfl,rfl,rfl⟩
 .go_enter func70,ntmps70
  go_wp2
  refine bodyPost_end (results_none rfl _ _ _) rfl ?_;exact⟨rfl,rfl⟩
end Yd
