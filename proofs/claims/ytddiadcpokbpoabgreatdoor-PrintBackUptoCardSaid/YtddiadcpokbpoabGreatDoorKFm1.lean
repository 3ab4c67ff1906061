import Derived.Test.YtddiadcpokbpoabGreatDoorKRf2
import Derived.Test.YtddiadcpokbpoabGreatDoorKShelf
import Derived.LoopIn
import Derived.LoopNIn
import Derived.TacticsInMore
import Derived.OwnWalkIn
import Derived.Shelf.Abstract
import Derived.Shelf.RegionOpen
import Derived.Lib.OthersKept
import Derived.Lib.RuneCountTail
import Derived.WalkMore
import Derived.ScopeJumps
import Derived.Maps.Own
import Derived.Maps.Views
import Derived.Maps.Keyed
import Derived.StringKeys
import Derived.Maps.OwnSet
import Derived.Test.YtddiadcpokbpoabGreatDoorKOrdV
import Derived.Scope
set_option linter.all false
set_option maxRecDepth 200000
set_option maxHeartbeats 8000000
namespace Yd
open Go Go.RowKit Go.Proofs Tryz
open Go.Value renaming pointer->G,int->M
open Lib renaming iterAt_size->H,decodeGo->N
open Tryz renaming prog->L
open Utf8 renaming decode->C
open _root_ renaming ByteArray->I,Nat->J
def okB (s:I)(pos:J):Bool:=!(((C s pos).1:Int)==65533)||decide (1<((C s pos).2:Int))
variable{pos:J}
theorem YH {s:I}(h:(((C s pos).1:Int)==65533)=false):okB s pos=true:=by unfold okB;rw[h];rfl
theorem YI {s:I}(h:(((C s pos).1:Int)==65533)=true):okB s pos=decide (1<((C s pos).2:Int)):=by unfold okB;rw[h];rfl
theorem Gm (s:I)(pos:J)(h:pos<s.size):N (s.extract pos s.size)=C s pos:=by
 unfold N;rw[au (by rw[Lib.tail_size];omega),Lib.tail_decode,dB]
theorem V6 (s:I)(pos:J)(t:pos<s.size)(n o p:J)(w:World)(g:Bx w n #[.string s])(i:Bx w o #[M .i64 pos])(b:Bx w p #[.int .i32 (C s pos).1])(u:Lib.Utf8Tabs 6 7 w):
  Calls L 156 #[G (some ⟨n,0,none⟩),G (some ⟨o,0,none⟩),G (some ⟨p,0,none⟩)] w (pz (.int .i32 (C s pos).1) (.bool (okB s pos)) w):=by
 have E:=g.1;have F:=i.1;have K:=b.1;have x:=hid (Tryz.utf8_DecodeRuneInString (s.extract pos s.size) w u);have y:=hid (Gm s pos t);have z:=hid b;have P:=g.2.2;have Q:=i.2.2;have R:=b.2.2;clear g i b;obtain⟨r,a⟩:∃r:Int,r=((C s pos).1:Int):=⟨_,rfl⟩;obtain⟨d,c⟩:∃d:Int,d=((C s pos).2:Int):=⟨_,rfl⟩;have j:(r==65533)=false->okB s pos=true:=λh=>YH (by rw[<-a];exact h)
 have k:(r==65533)=true->okB s pos=decide (1<d):=λh=>by rw[c];exact YI (by rw[<-a];exact h)
 rw[<-a];go_enter func156,ntmps156;go_wp2_with fail;refine x.q.mono ?_;rintro e S ⟨rfl,l⟩;rw[y.q,<-a,<-c];have A:=(z.q.keep l).1;rw[<-a] at A;have q:=hid l;clear l;have T:=hid a;have W:=hid c;clear a c;by_cases f:¬r=65533
 .have B:(r==65533)=false:=aX.2 f
  have m:=hid (j B);clear j k;go_wp2_with fail;refine bodyPost_ret (v:= .tuple #[.int .i32 r,.bool (okB s pos)]) (by simp[results,results156,go_sem,m.q]) rfl ⟨rfl,q.q⟩
 .have f:=xE.1 f
  subst f;have m:=hid (k rfl);clear j k;go_wp2_with fail;refine bodyPost_ret (v:= .tuple #[.int .i32 65533,.bool (okB s pos)]) (by simp[results,results156,go_sem,m.q]) rfl ⟨rfl,q.q⟩
def cK (s:I):J->J->List J
 |0,_=>[]
 |n+1,a=>if a<s.size then a::cK s n (a+(C s a).2) else []
def KD (s:I)(b B:J)(pos:J)(args:Array Value)(X:World):Prop:=
 pos<s.size/\∃a c,b<a/\B<a/\a<c/\args=#[M .i64 pos,.func (.func 156) #[] #[G (some ⟨b,0,none⟩),G (some ⟨a,0,none⟩),G (some ⟨c,0,none⟩)]]/\
  Bx X b #[.string s]/\Bx X a #[M .i64 pos]/\Bx X c #[.int .i32 (C s pos).1]
theorem width_pos (s:I)(pos:J)(h:pos<s.size):1<=(C s pos).2:=by
 by_cases ha:(s[pos]'h).toNat<128
 .rw[decode_ascii s pos h ha]
  exact aB _
 .exact(decode_high s pos h ah).2
theorem jD (W:World)(s:I):Below W.1.size W (W.iter s 0):=(Below.refl _ _).alloc (aB _) _
theorem Um:∀args w,(callFunc 155 args).run L w= .ok (.enter 155 args) w:=enters_of func155 ay rfl
attribute [local go_sem] Oper.semAt_some
theorem LY (s:I)(c:J)(D:J->Prop)(W:World)(A:Bx W c #[.string s])(Q:D c)(θ:D W.1.size):
  Iter L 155 #[G (some ⟨c,0,none⟩)] (KD s c W.1.size) 1 D (cK s s.size 0) W:=by
 intro n l R Jx S ο hY h0;refine callsIn_of_wp func155 rfl trivial ?_ rfl;simp only[ntmps155,nK,dK,gY,Nat.reduceAdd,Nat.reduceSub,pE,pF,mJ,mK,fK,fA];have hc:=A.1
 gi_wp2
 gi_loopw [] (λwr=>∃(b g:J)(j:List J),j++cK s g b=cK s s.size 0/\wr.1[W.1.size]?=some (.stringIter s b)/\R j wr/\Bx wr c #[.string s]/\s.size<=b+g) (λwr=>s.size - wr.iterPos W.1.size)
 case atStart=>
  refine⟨0,s.size,[],rfl,World.iter_heap W s 0,?_,A.keep (jD W s),by omega⟩;exact S _ _ _ h0 (.of_below (jD W s) (λi _ u=>u))
 case round=>
  obtain⟨b,g,j,q,v,B,d,T⟩:=hrel;have E:W.1.size<wr.1.size:=(dS.1 v).1;by_cases r:b<s.size
  .have ι:∀k,(Instr.next (G (some ⟨W.1.size,0,none⟩)) true k).run L wr=_:=λk=>Lib.run_next_any_at wr W.1.size s b k v r
   have Y:=width_pos s b r;obtain⟨f,rfl⟩:∃f,g=f+1:=⟨g - 1,by omega⟩;have Z:cK s (f+1) b=b::cK s f (b+(C s b).2):=by simp[cK,r]
   rw[Z] at q;have α:=Lib.iterAt_heap wr W.1.size s b (b+(C s b).2) v;obtain⟨X,m⟩:∃X,X=((wr.iterAt W.1.size s (b+(C s b).2)).alloc (.cells #[M .i64 b] 3)).alloc (.cells #[.int .i32 (C s b).1] 21):=⟨_,rfl⟩;have t:Below wr.1.size (wr.iterAt W.1.size s (b+(C s b).2)) X:=by
    rw[m];exact((Below.refl _ _).alloc (by rw[H];exact aB _) _).alloc (by simp[H]) _
   have F:X.1.size=wr.1.size+2:=by rw[m];simp[H]
   have x:∀i,i<wr.1.size->i≠W.1.size->X.1[i]?=wr.1[i]?:=λi u κ=>(t.block i u).trans (Lib.iterAt_other wr _ i s _ κ)
   have β:R j X:=S _ _ _ B ⟨t.os,t.tape,t.output,by omega,λi π u=>x i u ah⟩;have γ:c≠W.1.size:=by have:=A.2.2;omega
   have y:Bx X c #[.string s]:=⟨λi=>(World.cell?_of_block (a:=⟨c,i,none⟩) (x c d.2.2 γ)).trans (d.1 i),λi=>(World.frozen?_of_block (a:=⟨c,i,none⟩) (x c d.2.2 γ)).trans (d.2.1 i),by rw[F];have:=d.2.2;omega⟩;have δ:Bx X wr.1.size #[M .i64 b]:=by
    have:=(Bx.new (wr.iterAt W.1.size s (b+(C s b).2)) #[M .i64 b] 3).alloc (.cells #[.int .i32 (C s b).1] 21);rw[H,<-m] at this;exact this
   have ε:Bx X (wr.1.size+1) #[.int .i32 (C s b).1]:=by
    have:=Bx.new ((wr.iterAt W.1.size s (b+(C s b).2)).alloc (.cells #[M .i64 b] 3)) #[.int .i32 (C s b).1] 21;rw[World.size_alloc,H,<-m] at this;exact this
   have ζ:X.1[W.1.size]?=some (.stringIter s (b+(C s b).2)):=(t.block _ E).trans α;obtain⟨fn,ρ,σ,τ,K,z⟩:=hY j b #[M .i64 b,.func (.func 156) #[] #[G (some ⟨c,0,none⟩),G (some ⟨wr.1.size,0,none⟩),G (some ⟨wr.1.size+1,0,none⟩)]] X β
    ⟨cK s f (b+(C s b).2),by rw[<-q];simp⟩ ⟨r,wr.1.size,wr.1.size+1,d.2.2,E,by omega,rfl,y,δ,ε⟩ ah (n - 1)
   have υ:=y.1;have HA:=hid m;have HK:=hid y;have w:=hid (⟨q,ζ,E,T,Y,F,v⟩:_/\_/\_/\_/\_/\_/\_);rw[m] at K z;have φ:=H wr W.1.size s (b+(C s b).2);have χ:=d.1;clear m t F x β y δ ε ζ d B q T Y α Z
   gi_wp2
   refine⟨λh=>(by cases h),?_⟩;refine z.mono ?_;rintro e W' (⟨rfl,μ,o⟩|⟨rfl,ν,_⟩)
   .clear z K
    have η:W'.1[W.1.size]?=some (.stringIter s (b+(C s b).2)):=by
     have p:=w.q;have P:=HA.q;rw[<-P] at o;exact(o.2 _ θ ah).trans p.2.1
    have ξ:Bx W' c #[.string s]:=by
     have p:=HK.q;have P:=HA.q;rw[<-P] at o;exact⟨λi=>(World.cell?_of_block (a:=⟨c,i,none⟩) (o.2 _ Q p.2.2)).trans (p.1 i),λi=>(World.frozen?_of_block (a:=⟨c,i,none⟩) (o.2 _ Q p.2.2)).trans (p.2.1 i),bP p.2.2 o.1⟩
    clear o
    gi_wp2
    go_roundw
    case rel=>exact⟨b+(C s b).2,f,j++[b],by rw[<-w.q.1];simp,η,μ,ξ,by have:=w.q;omega⟩
    case measure=>
     have:=w.q;simp only[World.iterPos,η,this.2.2.2.2.2.2];omega
   .clear z K
    gi_wp2
    refine bodyPost_ret (results_none rfl _ _ _) rfl ?_;exact⟨_,rfl,.inr ⟨j++[b],⟨cK s f (b+(C s b).2),by rw[<-w.q.1];simp⟩,ν⟩⟩
  .have ι:∀k,(Instr.next (G (some ⟨W.1.size,0,none⟩)) true k).run L wr=_:=λk=>Lib.run_next_end_at wr W.1.size s b k v r
   gi_wp2
   go_end0
   refine⟨_,rfl,.inl ?_⟩;have:cK s g b=[]:=by cases g <;> simp[cK,r]
   rw[this,dm] at q;rw[<-q];exact B
end Yd
namespace Yd
open Go Go.RowKit Go.Proofs Tryz
open Below renaming heap_setCell->G,refl->H
open Go.Obj renaming cells->C
attribute [local go_sem] Oper.semAt_some
theorem Oq (s:ByteArray)(w:World):Calls Tryz.prog 137 #[.string s] w λe a=>e= .returned (.func (.func 155) #[] #[.pointer (some ⟨w.1.size,0,none⟩)])/\a=w.alloc (C #[.string s] 9):=by
 go_enter func137,ntmps137;go_wp2_with fail;go_ret;exact⟨rfl,rfl⟩
def qF (s:ByteArray)(p:Int->Bool)(pos:Nat):Bool:=!(okB s pos && p (Utf8.decode s pos).1)
def gK (s:ByteArray)(p:Int->Bool):Nat:=((cK s s.size 0).find? (qF s p)).getD s.size
theorem QV {l a:List Nat}{x:Nat}{q:Nat->Bool}(h:a++[x]<+:l)(ha:∀y∈a,q y=false)(b:q x=true):l.find? q=some x:=by
 obtain⟨t,rfl⟩:=h;rw[dw,List.find?_append,List.find?_eq_none.2 (λy c=>by simp[ha y c])];simp[b]
theorem Bx.set1 {X:World}{b:Nat}{u:Value}(h:Bx X b #[u])(v:Value):Bx (X.setCell ⟨b,0,none⟩ v) b #[v]:=by
 refine⟨λi=>?_,λi=>by rw[World.frozen?_setCell];exact h.2.1 i,by have:=h.2.2;simpa[World.setCell] using this⟩
 cases i with
 |zero=>exact World.cell?_setCell_same' _ _ _ (by rw[h.1 0];rfl)
 |succ i=>rw[World.cell?_setCell_other _ _ _ _ ak];rw[h.1 (i+1)];simp
theorem sQ (s:ByteArray)(gf:Nat)(lb:Array Value)(eg:∀R w,(callFunc gf R).run Tryz.prog w= .ok (.enter gf R) w)(p:Int->Bool)(w:World)
  (hp:∀(r:Int) Z,Below w.1.size w Z->Calls Tryz.prog gf (#[.int .i32 r]++lb) Z (cO (.bool (p r)) Z)) (hT:Lib.Utf8Tabs 6 7 w):
  Calls Tryz.prog 100 #[.string s,.func (.func gf) #[] lb] w (cO (.int .i64 (gK s p)) w):=by
 refine(callsIn_wide (n:=3)).1 ?_;refine callsIn_of_wp_marks func100 rfl trivial ?_ rfl;simp only[ntmps100,nK,dK,gY,Nat.reduceAdd,Nat.reduceSub,pE,pF,mJ,mK,fK,fA];refine wpIn_wide.2 ?_;go_wp2_with fail
 go_step3
 go_wp2_with fail
 go_step3
 go_wp2_with (go_at_call 137;refine(Oq _ _).mono ?_;rintro e w' ⟨rfl,rfl⟩)
 have ι:((w.alloc (C #[.func (.func gf) #[] lb] 182)).alloc (C #[.int .i64 s.size] 3)).1.size=w.1.size+2:=by simp
 have κ:(((w.alloc (C #[.func (.func gf) #[] lb] 182)).alloc (C #[.int .i64 s.size] 3)).alloc (C #[.string s] 9)).1.size=w.1.size+3:=by simp
 have α:Below w.1.size w (((w.alloc (C #[.func (.func gf) #[] lb] 182)).alloc (C #[.int .i64 s.size] 3)).alloc (C #[.string s] 9)):=
  (((H w.1.size w).alloc (aB _) _).alloc ak _).alloc (by simp;omega) _
 have β:Bx (((w.alloc (C #[.func (.func gf) #[] lb] 182)).alloc (C #[.int .i64 s.size] 3)).alloc (C #[.string s] 9)) w.1.size #[.func (.func gf) #[] lb]:=
  ((Bx.new w #[.func (.func gf) #[] lb] 182).alloc _).alloc _
 have γ:Bx (((w.alloc (C #[.func (.func gf) #[] lb] 182)).alloc (C #[.int .i64 s.size] 3)).alloc (C #[.string s] 9)) (w.1.size+1) #[.int .i64 s.size]:=by
  have:=(Bx.new (w.alloc (C #[.func (.func gf) #[] lb] 182)) #[.int .i64 s.size] 3).alloc (C #[.string s] 9);rw[World.size_alloc] at this;exact this
 have δ:Bx (((w.alloc (C #[.func (.func gf) #[] lb] 182)).alloc (C #[.int .i64 s.size] 3)).alloc (C #[.string s] 9)) (w.1.size+2) #[.string s]:=by
  have:=Bx.new ((w.alloc (C #[.func (.func gf) #[] lb] 182)).alloc (C #[.int .i64 s.size] 3)) #[.string s] 9;rw[ι] at this;exact this
 clear ι;revert κ α β γ δ;generalize((w.alloc (C #[.func (.func gf) #[] lb] 182)).alloc (C #[.int .i64 s.size] 3)).alloc (C #[.string s] 9)=V;intro κ α β γ δ;refine wpIn_wide.1 (xB (n:=3) (gf:=155) (lb:=#[.pointer (some ⟨w.1.size+2,0,none⟩)]) (by simp[go_sem]) Um
  (kY:=KD s (w.1.size+2) (V.1.size+2)) (k:=1) (D:=λi=>i<w.1.size\/i=w.1.size+2\/i=w.1.size+5) (xs:=cK s s.size 0)
  (λW hW Δ=>by have:=LY s (w.1.size+2) (λi=>i<w.1.size\/i=w.1.size+2\/i=w.1.size+5) W (δ.keep hW) (.inr (.inl rfl)) (.inr (.inr ah));rw[Δ] at this;exact this) ah
  (λx R X h=>by obtain⟨_,_,_,_,_,_,rfl,_⟩:=h;rfl)
  (λf X=>Below w.1.size w X/\Bx X w.1.size #[.func (.func gf) #[] lb]/\Bx X (w.1.size+1) #[.int .i64 s.size]/\∀y∈f,qF s p y=false)
  (λc f X=>c= .exit 0/\Below w.1.size w X/\∃b E,f=E++[b]/\(∀y∈E,qF s p y=false)/\qF s p b=true/\Bx X (w.1.size+1) #[.int .i64 b])
  (λf X Y h k=>⟨k.below h.1 (λi a=> .inl ah) h.1.size,k.bx h.2.1 (.inl ah),k.bx h.2.2.1 (.inl ah),h.2.2.2⟩)
  (λc f X Y h k=>by
   obtain⟨j,h2,b,E,h3,h4,h5,h6⟩:=h;exact⟨j,k.below h2 (λi a=> .inl ah) h2.size,b,E,h3,h4,h5,k.bx h6 (.inl ah)⟩)
  ⟨α,β,γ,λ_ h=>by cases h⟩ ?round ?done ?stop)
 case done=>
  rintro X ⟨g,h0,j,o⟩ ε;have hc:=j.1;simp only[Exit.inBlock,Exit.then];go_wp2_with fail;refine⟨by simp,.inl ⟨_,_,rfl,run_takeDeferred ε,?_⟩⟩;refine⟨_,results_tmp rfl _ _ _,?_,(Same.putObj (A:=λi=>i<w.1.size) X _ ah).below g (λi a=>a) g.size⟩;rw[gK,List.find?_eq_none.2 (λy hy=>by simp[o y hy])];rfl
 case stop=>
  rintro c f X μ ⟨rfl,g,b,E,rfl,o,Θ,j⟩ ε;have hc:=j.1;refine wpIn_wide.2 ?_;go_wp2_with fail;refine⟨by simp,.inl ⟨_,_,rfl,run_takeDeferred ε,?_⟩⟩;refine⟨_,results_tmp rfl _ _ _,?_,(Same.putObj (A:=λi=>i<w.1.size) X _ ah).below g (λi a=>a) g.size⟩;rw[gK,QV μ o Θ];rfl
 case round=>
  rintro f b R X ⟨g,h0,j,o⟩ μ ⟨Ξ,b3,b4,v,Φ,d,rfl,ν,ξ,ο⟩ Ψ m
  gi_wp2
  refine⟨H _ _,λS l=>?_⟩;have ζ:Below w.1.size w S:=l.below g (λi a=>by omega) g.size;have π:=l.bx h0 ah;have ρ:=l.bx j ah;have σ:=l.bx ν ah;have τ:=l.bx ξ ah;have υ:=l.bx ο ah;have φ:Lib.Utf8Tabs 6 7 S:=Utf8Tabs_below hT ζ;have z:=hid (show V.1.size+3<=S.1.size by have:=l.size;omega);have HR:=hid (V6 s b Ξ (w.1.size+2) b3 b4 S σ τ υ φ);have HB:=hid ζ;have H0:=hid π;have H1:=hid ρ;clear σ τ υ φ ζ π ρ l ν ξ ο g h0 j
  gi_wp2
  refine⟨trivial,λh=>(by cases h),?_⟩;refine(CallsIn.inRound _ (callsIn_wide.2 HR.q)).mono ?_;rintro e W3 ⟨rfl,v⟩;have q:=hid (HB.q.bQ v);have η:=hid (H0.q.keep v);have F:=hid (H1.q.keep v);have t:=hid v;have χ:=(η.q).1;clear v;have ψ:=F.q.1;have ω:=F.q.2.1
  cases B:okB s b
  .have K:=hid B;clear B
   gi_wp2
   refine⟨λ_ h=>(by cases h),?_⟩
   gi_wp2
   exact⟨⟨(G _ _ _ _ (by simp;omega)).trans (t.q.block _ (by have:=z.q;omega)),(G _ _ _ _ (by simp;omega)).trans (t.q.block _ (by have:=z.q;omega))⟩,
    (bA.of_below t.q (λi _ a=>a)).trans ⟨by simp[World.setCell],λi a _=>G _ _ _ _ (by simp;omega)⟩,rfl,q.q.setCell (p:=⟨w.1.size+1,0,none⟩) ak _,b,f,rfl,o,by simp[qF,K.q],F.q.set1 _⟩
  .cases T:p (Utf8.decode s b).1
   .have K:=hid B;have P:=hid T
    clear B T
    gi_wp2
    refine⟨trivial,λh=>(by cases h),?_⟩;refine(CallsIn.inRound _ (callsIn_wide.2 (hp _ _ q.q))).mono ?_;rintro e W4 ⟨rfl,d⟩;rw[P.q];have θ:=hid (q.q.bQ d);have Γ:=hid (η.q.keep d);have Q:=hid (F.q.keep d);have u:=hid (t.q.bQ d);have Ω:=Q.q.1;have q0:=Q.q.2.1;clear d ψ χ ω
    gi_wp2
    exact⟨⟨(G _ _ _ _ (by simp;omega)).trans (u.q.block _ (by have:=z.q;omega)),(G _ _ _ _ (by simp;omega)).trans (u.q.block _ (by have:=z.q;omega))⟩,
     (bA.of_below u.q (λi _ a=>a)).trans ⟨by simp[World.setCell],λi a _=>G _ _ _ _ (by simp;omega)⟩,rfl,θ.q.setCell (p:=⟨w.1.size+1,0,none⟩) ak _,b,f,rfl,o,by simp[qF,K.q,P.q],Q.q.set1 _⟩
   .have K:=hid B;have P:=hid T
    clear B T
    gi_wp2
    refine⟨trivial,λh=>(by cases h),?_⟩;refine(CallsIn.inRound _ (callsIn_wide.2 (hp _ _ q.q))).mono ?_;rintro e W4 ⟨rfl,d⟩;rw[P.q];have θ:=hid (q.q.bQ d);have Γ:=hid (η.q.keep d);have Q:=hid (F.q.keep d);have u:=hid (t.q.bQ d);clear d ψ χ ω
    gi_wp2
    exact⟨⟨u.q.block _ (by have:=z.q;omega),u.q.block _ (by have:=z.q;omega)⟩,bA.of_below u.q (λi _ a=>a),θ.q,Γ.q,Q.q,λy hy=>by
     rcases cu.1 hy with h|h
     .exact o y h
     .obtain rfl:y=b:=by simpa using h
      simp[qF,K.q,P.q]⟩
end Yd
namespace Yd
open Go Go.RowKit Go.Proofs Tryz
theorem Ez:∀args w,(callFunc 101 args).run Tryz.prog w= .ok (.enter 101 args) w:=enters_of func101 ay rfl
def vC (s:ByteArray):Int:=if h:0<s.size then wrap32 (s[0]'h).toNat else 0
def bG (s:ByteArray):Bool:=!s.toList.isEmpty && decide ((s.size:Int)<=24) && !kJ (vC s) && decide (gK s jo=s.size)
theorem Gn (s:ByteArray)(h:¬s.toList=[]):0<s.size:=by
 rcases Nat.eq_zero_or_pos s.size with a|a
 .have e:s=ByteArray.empty:=by simpa using a
  subst e;exact absurd ak h
 .exact a
theorem CP (s:ByteArray)(w:World)(b:Lib.Utf8Tabs 6 7 w):Calls Tryz.prog 63 #[.string s] w (cO (.bool (bG s)) w):=by
 by_cases d:s.toList=[]
 .have a:bG s=false:=by simp[bG,d]
  rw[a];clear a b;go_enter func63,ntmps63;go_wp2_with fail;go_ret;exact⟨rfl,Below.refl _ _⟩
 have m:s.toList.isEmpty=false:=by simp[d]
 have f:=Gn s d;by_cases g:(s.size:Int)<=24
 .obtain⟨R,h⟩:∃R:Bool,R=decide (gK s jo=s.size):=⟨_,rfl⟩
  have a:bG s=(!kJ (vC s) && R):=by simp[bG,m,g,h]
  have i:vC s=wrap32 (s[0]'f).toNat:=by simp[vC,f]
  rw[a,i];have n:=hid b;have o:=hid h;clear a i b h
  cases j:kJ (wrap32 (s[0]'f).toNat)
  all_goals
   have p:=hid j;clear j;go_enter func63,ntmps63;go_wp2_with fail;refine(mP _ _).mono ?_;rintro e q ⟨rfl,k⟩;rw[p.q];have c:=hid k;clear k;go_wp2_with fail
  .refine(sQ s 101 #[] Ez jo q (λr t _=>zi r t) (Utf8Tabs_below n.q c.q)).mono ?_
   rintro e x ⟨rfl,u⟩;go_wp2_with fail;go_ret;refine⟨?_,c.q.bQ u⟩;rw[o.q];by_cases l:gK s jo=s.size
   .simp[l]
   .have v:¬((gK s jo:Int)=s.size):=by omega
    simp[l,v]
  .go_ret
   exact⟨rfl,c.q⟩
 .have a:bG s=false:=by simp[bG,g]
  rw[a];clear a b;have y:24<(s.size:Int):=by omega
  clear g;go_enter func63,ntmps63;go_wp2_with fail;go_ret;exact⟨rfl,Below.refl _ _⟩
end Yd
namespace Yd
open List renaming range->V
open Option renaming some->G,none->N
open Go Go.RowKit Go.Proofs Go.Maps Tryz
open Go renaming World->M
open Go.Value renaming string->O
open Go.WideMaps renaming keyOf_string_mk->U
open Tryz renaming prog->C,underlying9->I
open World renaming cell?_of_block->H
def sJ (W:M)(b:Nat)(ns:List Bs):Prop:=∃a:DataW Unit,IsMap a/\W.ownsMap C 9 (plainElem C 4) b ns.length a/\∀s:Bs,a.atKey (.string s) (.lit (.bool false))= .lit (.bool (decide (s∈ns)))
theorem sJ.new (w:M):sJ (w.alloc (.map #[] 0)) w.1.size []:=⟨.map [],⟨[],rfl⟩,World.ownsMap_made _ _ _ _,λs=>by simp[DataW.atKey]⟩
theorem QW (w:M):(zeroValue 4).run C w= .ok (.bool false) w:=ay
variable{W:M}{b:Nat}{ns:List Bs}
theorem sJ.look (h:sJ W b ns)(s:Bs)(i:s.length<=24):(Instr.lookup 134 (.map (G b)) (O ⟨s.toArray⟩) false).run C W= .ok (.bool (decide (s∈ns))) W:=by
 obtain⟨j,_,c,d⟩:=h;have e:keyOf C 9 (O ⟨s.toArray⟩)=G (.string s):=by
  have:=U (P:=C) (k:=9) I (s:=⟨s.toArray⟩) (by unfold maxLen;simp[ByteArray.size];omega)
  simpa using this
 obtain⟨v,l,f,a⟩:=c.lookup (string_keyed I) underlying134 (QW W) (plainElem_bool underlying4 false) e;rw[d s] at a;have g:v= .bool (decide (s∈ns)):=by
  unfold plainElem at a;simp only[underlying4] at a
  cases v <;> simp at a
  rw[a.1]
 rw[f,g]
theorem sJ.put (h:sJ W b ns)(s:Bs)(o:s.length<=24)(e:ns.length<maxLen):
  ∃a,(Instr.mapUpdate 134 (.map (G b)) (O ⟨s.toArray⟩) (.bool true)).run C W= .ok () a/\sJ a b (ns++[s])/\W.grownBy a (G b):=by
 obtain⟨f,d,g,i⟩:=h;have j:keyOf C 9 (O ⟨s.toArray⟩)=G (.string s):=by
  have:=U (P:=C) (k:=9) I (s:=⟨s.toArray⟩) (by unfold maxLen;simp[ByteArray.size];omega)
  simpa using this
 obtain⟨a,l,m,n⟩:=g.update (string_keyed I) underlying134 e j (plainElem_bool underlying4 true);refine⟨a,l,⟨f.put (.string s) (.lit (.bool true)),d.put _ _,by simpa using m,λx=>?_⟩,n⟩;by_cases c:x=s
 .subst c
  rw[atKey_put_same d (by trivial)];simp
 .rw[atKey_put_other (by simpa using c),i x];simp[c]
variable{X:M}
theorem sJ.of_eq (h:sJ W b ns)(e:X.1[b]?=W.1[b]?):sJ X b ns:=by
 obtain⟨a,c,⟨d,f,g,F,i,j⟩,k⟩:=h;exact⟨a,c,⟨d,f,e.trans g,F,i,j⟩,k⟩
theorem sJ.lt (h:sJ W b ns):b<W.1.size:=by
 obtain⟨c,d,a,e⟩:=h;exact a.lt
theorem Bx.of_eq {Y:M}{cs:Array Value}(h:Bx X b cs)(c:X.1.size<=Y.1.size)(e:Y.1[b]?=X.1[b]?):Bx Y b cs:=
 ⟨λi=>(H (a:=⟨b,i,N⟩) e).trans (h.1 i),λi=>(World.frozen?_of_block (a:=⟨b,i,N⟩) e).trans (h.2.1 i),bP h.2.2 c⟩
theorem Bx.grown {w:M}{cs:Array Value}{row:Option Nat}(h:Bx X b cs)(a:X.grownBy w row)(c:row≠G b):Bx w b cs:=
 h.of_eq a.size (a.block b h.2.2 (λe=>c e.symm))
theorem sS {s:Bs}(h:bG ⟨s.toArray⟩=true):s.length<=24:=by
 simp only[bG,aM,aV] at h;have:=h.1.1.2;simp[ByteArray.size] at this;omega
theorem Ic (s:Bs)(w:M)(c:Lib.Utf8Tabs 6 7 w):Calls C 94 #[O ⟨s.toArray⟩] w (cO (.int .i64 (if bG ⟨s.toArray⟩=true then 0 else 200)) w):=by
 have i:=hid (CP ⟨s.toArray⟩ w c);obtain⟨R,a⟩:∃R:Int,R=(if bG ⟨s.toArray⟩=true then 0 else 200):=⟨_,rfl⟩;rw[<-a];have d:=hid a;clear c a;go_enter func94,ntmps94;go_wp2_with fail;refine i.q.mono ?_;rintro e j ⟨rfl,f⟩;have g:=hid f;clear f
 cases h:bG ⟨s.toArray⟩
 .have b:R=200:=by rw[d.q,h];rfl
  subst b;clear h;go_wp2_with fail;go_ret;exact⟨rfl,g.q⟩
 .have b:R=0:=by rw[d.q,h];rfl
  subst b;clear h;go_wp2_with fail;go_ret;exact⟨rfl,g.q⟩
def qy (W:M)(b:Nat)(ns:List Bs):Prop:=∃a:DataW Unit,IsMap a/\W.ownsMap C 9 (plainElem C 4) b ns.length a/\(∀s:Bs,a.atKey (.string s) (.lit (.bool false))= .lit (.bool (decide (s∈ns))))/\(∀s:Bs,Maps.has a (.string s)=decide (s∈ns))/\Maps.size a=ns.length
theorem qy.s (h:qy W b ns):sJ W b ns:=let⟨a,c,d,e,_⟩:=h;⟨a,c,d,e⟩
theorem qy.new (w:M):qy (w.alloc (.map #[] 0)) w.1.size []:=⟨.map [],⟨[],rfl⟩,World.ownsMap_made _ _ _ _,λs=>by simp[DataW.atKey],λs=>rfl,rfl⟩
theorem qy.of_eq (h:qy W b ns)(e:X.1[b]?=W.1[b]?):qy X b ns:=by
 obtain⟨a,c,⟨d,f,g,F,i,j⟩,k⟩:=h;exact⟨a,c,⟨d,f,e.trans g,F,i,j⟩,k⟩
theorem qy.lt (h:qy W b ns):b<W.1.size:=h.s.lt
theorem qy.put (h:qy W b ns)(s:Bs)(t:s.length<=24)(g:ns.length<maxLen)(i:s∉ns):
  ∃c,(Instr.mapUpdate 134 (.map (G b)) (O ⟨s.toArray⟩) (.bool true)).run C W= .ok () c/\qy c b (ns++[s])/\W.grownBy c (G b):=by
 obtain⟨j,d,e,l,f,m⟩:=h;have n:keyOf C 9 (O ⟨s.toArray⟩)=G (.string s):=by
  have:=U (P:=C) (k:=9) I (s:=⟨s.toArray⟩) (by unfold maxLen;simp[ByteArray.size];omega)
  simpa using this
 have o:=e.tidy (string_keyed I);obtain⟨c,p,q,r⟩:=e.update (string_keyed I) underlying134 g n (plainElem_bool underlying4 true);refine⟨c,p,⟨j.put (.string s) (.lit (.bool true)),d.put _ _,by simpa using q,λx=>?_,λx=>?_,?_⟩,r⟩
 .by_cases a:x=s
  .subst a
   rw[atKey_put_same d (by trivial)];simp
  .rw[atKey_put_other (by simpa using a),l x];simp[a]
 .by_cases a:x=s
  .subst a
   rw[has_put_same d (by trivial)];simp
  .rw[has_put_other (by simpa using a),f x];simp[a]
 .rw[size_put o,f s,bE i,m,bO];rfl
theorem qy.len (h:qy W b ns)(a:TypeId):(Builtin.len_ #[134] a #[.map (G b)]).run C W= .ok (.int .i64 (ns.length:Int)) W:=by
 obtain⟨e,_,c,_,_,d⟩:=h;rw[c.len underlying134,d]
theorem QX (s:Bs)(d b:Nat)(ns:List Bs)(w:M)(k:Bx w d #[.map (G b)])(a:qy w b ns)(f:s.length<=24)(m:ns.length<=300)(c:s∉ns):
  Calls C 207 #[O ⟨s.toArray⟩,.pointer (G ⟨d,0,N⟩)] w λe g=>e= .returned (.bool true)/\qy g b (ns++[s])/\w.grownBy g (G b):=by
 have l:=a.s.look s f;rw[bE c] at l;obtain⟨n,o,h,i⟩:=a.put s f (by unfold maxLen;omega) c;have p:=k.1;have j:=hid (⟨h,i⟩:_/\_);clear a c h i;go_enter func207,ntmps207;go_wp2_with fail;go_ret;exact⟨rfl,j.q.1,j.q.2⟩
attribute [local go_sem] Oper.semAt_some Oper.semAt_none wide_round
theorem Un:∀args w,(callFunc 206 args).run C w= .ok (.enter 206 args) w:=enters_of func206 ay rfl
def Td (a:List Bs)(i:Nat)(args:Array Value)(_:M):Prop:=∃s,a[i]?=G s/\args=#[.int .i64 ((i+1:Nat):Int),O ⟨s.toArray⟩]
theorem QY {α:Type}{Y:M}{k:Nat}{enc:α->List Value}{a:Option Addr}{n c:Nat}{xs:List α}(h:Row X k enc a n c xs)(d:∀g,(Value.slice a n c).ownBlock=G g->Y.1[g]?=X.1[g]?):Row Y k enc a n c xs:=
 ⟨h.1,h.2.1,h.2.2.1,h.2.2.2.1,λi x e=>by
  obtain⟨b,o,rfl,f⟩:=h.2.2.2.2 i x e;exact⟨b,o,rfl,λj v l=>(H (a:=⟨b,o+i*k+j,N⟩) (d b rfl)).trans (f j v l)⟩⟩
theorem LZ {h:List Bs}{i:Nat}{s:Bs}(c:h.Nodup)(d:h[i]?=G s):s∉h.take i:=λe=>by
 obtain⟨j,a⟩:=List.getElem?_of_mem e;have b:j<i:=by have:=(bK.1 a).1;rw[fB] at this;omega
 rw[List.getElem?_take_of_lt b] at a;obtain⟨f,g⟩:=bK.1 a;obtain⟨k,l⟩:=bK.1 d;exact BB.1 c j i f k b (g.trans l.symm)
theorem FD {n i:Nat}{z:Int}(a:z=((i+1:Nat):Int))(h:i<n):n - (RowKit.intOf (.int .i64 z)).toNat<n - (RowKit.intOf (.int .i64 (i:Int))).toNat:=by
 subst a;show n - (((i+1:Nat):Int)).toNat<n - ((i:Int)).toNat;rw[jL,jL];omega
structure Zv (L:List Bs)(a:Option Addr)(c sb m0 i:Nat)(X:M):Prop where
 m:qy X m0 (L.take i)
 x:Bx X (m0+1) #[.map (G m0)]
 s:Bx X sb #[.slice a L.length c]
 r:Row X 1 encStr a L.length c L
theorem Gp (d:List Bs)(a:Option Addr)(c f:Nat)(D:Nat->Prop)(W:M)(hr:Row W 1 encStr a d.length c d)(Q:Bx W f #[.slice a d.length c])
  (ζ:∀i,i<W.1.size->((G i=(Value.slice a d.length c).ownBlock/\0<d.length)\/i=f)->D i) (η:D W.1.size) (θ:D (W.1.size+1)) (hL:d.length<=300) (hw:∀s∈d,s.length<=24) (hn:d.Nodup):
  Iter C 206 #[.pointer (G ⟨f,0,N⟩)] (Td d) 2 D (V d.length) W:=by
 intro n l J Jx hJ ψ hY y;refine callsIn_of_wp func206 rfl trivial ?_ rfl;simp only[ntmps206,nK,dK,gY,Nat.reduceAdd,Nat.reduceSub,pE,pF,mJ,mK,fK,fA];have q3:= @run_makeMap C;have F:=aA (aA (Below.refl W.1.size W) (.map #[] 0)) (.cells #[.map (G W.1.size)] 134);have hc:=(Q.keep F).1;have ω:Hid (Zv d a c f W.1.size 0 ((W.alloc (.map #[] 0)).alloc (.cells #[.map (G W.1.size)] 134))):=hid
  ⟨by rw[List.take_zero];exact(qy.new W).of_eq (Below.heap_alloc _ _ _ ak),by have:=Bx.new (W.alloc (.map #[] 0)) #[.map (G W.1.size)] 134;rw[World.size_alloc] at this;exact this,Q.keep F,hr.below F rfl⟩
 have ι:=hJ _ _ _ y (.of_below F (λi _ hi=>hi));have HR:=hid hr;have Γ:=hid ι;have HJ:=hid hJ;have HY:=hid hY;have z:=hid ζ;have R:=hid (⟨η,θ⟩:_/\_);have HL:=hid hL;have HW:=hid hw;have Δ:=hid hn;have Θ:=Q.2.2;clear hr Q hJ hY y F ι ζ η θ hL hw hn ψ
 gi_wp2
 gi_loopw [10] (λv wr=>∃i:Nat,v= .int .i64 i/\i<=d.length/\J (V i) wr/\Zv d a c f W.1.size i wr) (λv _=>d.length - (RowKit.intOf v).toNat)
 case atStart=>exact⟨0,rfl,bn _,Γ.q,ω.q⟩
 case round=>
  obtain⟨i,rfl,hi,S,A⟩:=hrel;by_cases T:i<d.length
  .obtain⟨s,b,o,hx,rfl,κ⟩:=A.r.at_ T
   have y:=κ 0 _ rfl;simp only[gJ,dB] at y;have μ:=A.s.1;have ν:=A.x.1;have ξ:b<W.1.size:=by
    obtain⟨_,b',o',_,Ξ,Φ⟩:=HR.q.at_ T
    cases Ξ
    exact World.block_lt_of_cell? W _ (Φ 0 _ rfl)
   have ο:d.take i++[s]=d.take (i+1):=by rw[ig,hx];rfl
   have m:=hid A;have α:=hid S;have HX:=hid hx;have q:=hid ξ;have Ψ:=hid ο;have π:Hid (wrap64 ((i:Int)+1)=((i+1:Nat):Int)):=hid (by have:=HL.q;unfold wrap64;omega);have t:=hid Θ;clear A S hx κ hc ξ ο
   gi_wp2
   refine Cu 99 [(0,0),(1,0),(2,0),(3,0),(4,0),(5,2),(6,0),(7,0),(8,0),(10,0),(11,0),(12,0),(13,0),(9,2),(14,2),(15,0),(16,0)] (λ_=>True) (λX=>X.cell? ⟨f,0,N⟩=G (.slice (G ⟨b,o,N⟩) d.length c)/\X.cell? ⟨b,o+i,N⟩=G (O ⟨s.toArray⟩)/\X.cell? ⟨W.1.size+1,0,N⟩=G (.map (G W.1.size))) ay ay (trivial) (⟨μ 0,y,ν 0⟩) ?_;refine qC ?_;refine GR rfl rfl (λK p=>?_);refine⟨λ_ _=>trivial,?_⟩;go_simp;refine⟨λh=>(by cases h),?_⟩;refine(callsIn_wide.2 (QX s (W.1.size+1) W.1.size (d.take i) wr.drew m.q.x (m.q.m.of_eq rfl) (HW.q s (dA HX.q)) (by rw[fB];have:=HL.q;omega) (LZ Δ.q HX.q))).mono ?_;rintro e u ⟨rfl,β,P⟩;rw[Ψ.q] at β;have w:=hid (⟨P.cell (μ 0) (by have:=t.q;simp;omega),P.cell y (by have:=q.q;simp;omega),P.cell (ν 0) ak⟩:u.cell? ⟨f,0,N⟩=G (.slice (G ⟨b,o,N⟩) d.length c)/\u.cell? ⟨b,o+i,N⟩=G (O ⟨s.toArray⟩)/\u.cell? ⟨W.1.size+1,0,N⟩=G (.map (G W.1.size)));have ρ:=hid β;have j:=hid P;refine p _ _ ⟨trivial,w.q⟩ ?_;clear p K β P;refine qC ?_;refine GR rfl rfl (λK p=>?_);refine⟨λ_ _=>trivial,?_⟩;have σ:=ρ.q.len;have τ:(d.take (i+1)).length=i+1:=by rw[fB];omega
   rw[τ] at σ;go_simp;refine p _ _ ⟨trivial,w.q⟩ ?_;clear p K σ τ;refine GR rfl rfl (λK p=>?_);have υ:=HJ.q _ _ _ α.q (⟨j.q.os,j.q.tape,j.q.output,j.q.size,λk x hl=>j.q.block k hl (by intro e;injection e with e;omega)⟩:Same (λi=>i<W.1.size\/W.1.size+2<=i) wr u);have γ:V i++[i]<+:V d.length:=by
    rw[<-List.range_succ];exact List.prefix_iff_eq_take.2 (by rw[List.length_range,List.take_range,nX T])
   obtain⟨fn,q4,q5,q6,hy,hR⟩:=HY.q (V i) i #[.int .i64 ((i:Int)+1),O ⟨s.toArray⟩] u υ γ ⟨s,HX.q,by simp⟩ (by have:=m.q.x.2.2;have h2:=j.q.size;have h3:wr.drew.1.size=wr.1.size:=rfl;omega) (n - 1);have Ω:=hid γ;clear υ γ;refine⟨λ_ _=>trivial,?_⟩;go_simp;refine⟨λh=>(by cases h),?_⟩;refine hR.mono ?_;rintro e B (⟨rfl,φ,x⟩|⟨rfl,χ,x⟩)
   .skip
    have E:=hid x;have q0:=hid φ;clear hR hy;have r:=x.2;have Y:wr.1.size<=u.1.size:=j.q.size;have Z:=m.q.x.2.2;have δ:=hid (⟨(H (a:=⟨f,0,N⟩) (r f (z.q f t.q (.inr rfl)) (by have:=t.q;omega))).trans w.q.1,(H (a:=⟨b,o+i,N⟩) (r b (z.q b q.q (.inl ⟨rfl,by omega⟩)) (by have:=q.q;omega))).trans w.q.2.1,(H (a:=⟨W.1.size+1,0,N⟩) (r (W.1.size+1) R.q.2 ah)).trans w.q.2.2⟩:B.cell? ⟨f,0,N⟩=G (.slice (G ⟨b,o,N⟩) d.length c)/\B.cell? ⟨b,o+i,N⟩=G (O ⟨s.toArray⟩)/\B.cell? ⟨W.1.size+1,0,N⟩=G (.map (G W.1.size)));refine p _ _ ⟨trivial,δ.q⟩ ?_;clear p K x r Y Z φ;refine qC ?_;refine aO ?_
    gi_wp2
    go_roundw
    case rel=>
     have Y:wr.1.size<=u.1.size:=j.q.size;have Z:=m.q.x.2.2;refine⟨i+1,bJ (Value.int .i64) π.q,by omega,by rw[List.range_succ];exact q0.q,⟨ρ.q.of_eq (E.q.2 W.1.size R.q.1 ah),?_,?_,?_⟩⟩
     .exact((m.q.x.of_eq j.q.size (j.q.block _ m.q.x.2.2 ak)).of_eq E.q.1 (E.q.2 (W.1.size+1) R.q.2 ah))
     .exact((m.q.s.of_eq j.q.size (j.q.block _ m.q.s.2.2 (by have:=t.q;simp;omega))).of_eq E.q.1 (E.q.2 _ (z.q f t.q (.inr rfl)) (by have:=t.q;omega)))
     .exact QY m.q.r (λg hg=>by have ε:G b=G g:=hg;injection ε with ε;subst ε;exact(E.q.2 _ (z.q b q.q (.inl ⟨rfl,by omega⟩)) (by have:=q.q;omega)).trans (j.q.block _ (by have:=q.q;have:=m.q.x.2.2;show _<wr.1.size;omega) (by have:=q.q;simp;omega)))
    case measure=>exact FD π.q T
   .skip
    clear hR hy;have r:=x.2;have Y:wr.1.size<=u.1.size:=j.q.size;have Z:=m.q.x.2.2;have δ:=hid (⟨(H (a:=⟨f,0,N⟩) (r f (z.q f t.q (.inr rfl)) (by have:=t.q;omega))).trans w.q.1,(H (a:=⟨b,o+i,N⟩) (r b (z.q b q.q (.inl ⟨rfl,by omega⟩)) (by have:=q.q;omega))).trans w.q.2.1,(H (a:=⟨W.1.size+1,0,N⟩) (r (W.1.size+1) R.q.2 ah)).trans w.q.2.2⟩:B.cell? ⟨f,0,N⟩=G (.slice (G ⟨b,o,N⟩) d.length c)/\B.cell? ⟨b,o+i,N⟩=G (O ⟨s.toArray⟩)/\B.cell? ⟨W.1.size+1,0,N⟩=G (.map (G W.1.size)));have q1:=hid χ;refine p _ _ ⟨trivial,δ.q⟩ ?_;clear p K x r Y Z χ;refine qC ?_;refine aO ?_
    gi_wp2
    refine bodyPost_ret (results_none rfl _ _ _) rfl ?_;exact⟨_,rfl,.inr ⟨V i++[i],Ω.q,q1.q⟩⟩
  .skip
   have q2:i=d.length:=by omega
   subst q2;have α:=hid S;clear A S hc
   gi_wp2
   go_end0
   exact⟨_,rfl,.inl α.q⟩
end Yd
namespace Yd
open Go Go.RowKit Go.Proofs Go.Maps Tryz
open Below renaming heap_setCell->C,refl->J
open Go.Value renaming slice->G
open World renaming size_alloc->H,setCell->I
attribute [local go_sem] Oper.semAt_some
theorem JQ (a:Option Addr)(n c:Nat)(w:World):Calls Tryz.prog 198 #[G a n c] w λe b=>e= .returned (.func (.func 206) #[] #[.pointer (some ⟨w.1.size,0,none⟩)])/\b=w.alloc (.cells #[G a n c] 22):=by
 go_enter func198,ntmps198;go_wp2_with fail;go_ret;exact⟨rfl,rfl⟩
theorem QZ {a:List Nat}{x n:Nat}(h:a++[x]<+:List.range n):x=a.length/\x<n:=by
 obtain⟨t,b⟩:=h;have c:(List.range n)[a.length]?=some x:=by rw[<-b];simp
 obtain⟨d,e⟩:=bK.1 c;rw[List.getElem_range] at e;rw[List.length_range] at d;omega
structure zw (L:List Bs):Prop where
 w:∀s∈L,bG ⟨s.toArray⟩=true
 n:L.Nodup
 l:L.length<=300
theorem DZ (d:List Bs)(a:Option Addr)(c:Nat)(w:World)(R:Row w 1 encStr a d.length c d)(r:zw d)(hT:Lib.Utf8Tabs 6 7 w):
  Calls Tryz.prog 189 #[.agg #[G a d.length c]] w (cO (.int .i64 0) w):=by
 refine(callsIn_wide (n:=3)).1 ?_;refine callsIn_of_wp_marks func189 rfl trivial ?_ rfl;simp only[ntmps189,nK,dK,gY,Nat.reduceAdd,Nat.reduceSub,pE,pF,mJ,mK,fK,fA];refine wpIn_wide.2 ?_;go_wp2_with fail
 go_step3
 go_wp2_with fail
 go_step3
 go_wp2_with (go_at_call 198;refine(JQ _ _ _ _).mono ?_;rintro e w' ⟨rfl,rfl⟩)
 obtain⟨j,t⟩:∃j,j=((w.alloc (.cells #[G a d.length c] 163)).alloc (.cells #[.int .i64 0] 3)).alloc (.cells #[G a d.length c] 22):=⟨_,rfl⟩;rw[show w.1.size+1+1=w.1.size+2 from rfl,<-t];have π:j.1.size=w.1.size+3:=by rw[t];simp
 have S:Below w.1.size w j:=by rw[t];exact aA (aA (aA (J _ _) _) _) _
 have η:Bx j w.1.size #[G a d.length c]:=by rw[t];exact((Bx.new w _ _).alloc _).alloc _
 have θ:Bx j (w.1.size+1) #[.int .i64 0]:=by
  rw[t];have:=(Bx.new (w.alloc (.cells #[G a d.length c] 163)) #[.int .i64 0] 3).alloc (.cells #[G a d.length c] 22);rw[H] at this;exact this
 have ι:Bx j (w.1.size+2) #[G a d.length c]:=by
  rw[t];have:=Bx.new ((w.alloc (.cells #[G a d.length c] 163)).alloc (.cells #[.int .i64 0] 3)) #[G a d.length c] 22;rw[H,H] at this;exact this
 clear t;have κ:∀i,some i=(Value.slice a d.length c).ownBlock->0<d.length->i<w.1.size:=λi f u=>by
  obtain⟨_,b,o,_,rfl,T⟩:=R.at_ u;have g:some i=some b:=f;injection g with g;subst g;exact World.block_lt_of_cell? w _ (T 0 _ rfl)
 refine wpIn_wide.1 (xB (n:=3) (gf:=206) (lb:=#[.pointer (some ⟨w.1.size+2,0,none⟩)]) (by simp[go_sem]) Un
  (kY:=Td d) (k:=2) (D:=λi=>i<w.1.size\/i=w.1.size\/i=w.1.size+2\/i=w.1.size+5\/i=w.1.size+6) (xs:=List.range d.length)
  (λW Z ρ=>Gp d a c (w.1.size+2) _ W ((R.below S rfl).below Z rfl) (ι.keep Z) (λi f B=>by
   rcases B with B|rfl
   .exact .inl (κ i B.1 B.2)
   .exact .inr (.inr (.inl rfl))) (.inr (.inr (.inr (.inl ah)))) (.inr (.inr (.inr (.inr ah)))) r.l (λs E=>sS (r.w s E)) r.n) ah
  (λx μ X hx=>by obtain⟨_,_,rfl⟩:=hx;rfl)
  (λl X=>Below w.1.size w X/\Bx X w.1.size #[G a d.length c]/\Bx X (w.1.size+1) #[.int .i64 l.length])
  (λc l X=>False)
  (λl X Y q k=>⟨k.below q.1 (λi f=> .inl ah) q.1.size,k.bx q.2.1 (.inl ah),k.bx q.2.2 (.inl ah)⟩)
  (λc l X Y q k=>q.elim)
  ⟨S,η,θ⟩ ?round ?done ?stop)
 case stop=>
  rintro c l X α q β;exact q.elim
 case done=>
  rintro X ⟨v,u,g⟩ β;rw[List.length_range] at g;have T:=u.1;have σ:=g.1;have τ:decide ((d.length:Int)>300)=false:=bE (by have:=r.l;omega);have υ:decide (300<(d.length:Int))=false:=bE (by have:=r.l;omega);have φ:decide (300<d.length)=false:=bE (by have:=r.l;omega);have χ:((d.length:Int)!=(d.length:Int))=false:=by simp
  simp only[Exit.inBlock,Exit.then];go_wp2_with fail;refine⟨by simp,.inl ⟨_,_,rfl,run_takeDeferred β,?_⟩⟩;refine⟨_,results_tmp rfl _ _ _,?_,(Same.putObj (A:=λi=>i<w.1.size) X _ ah).below v (λi f=>f) v.size⟩
  rfl
 case round=>
  rintro l x μ X ⟨v,u,g⟩ α ⟨s,E,rfl⟩ ψ m;obtain⟨ω,Γ⟩:=QZ α
  gi_wp2
  refine⟨J _ _,λF y=>?_⟩;have K:Below w.1.size w F:=y.below v (λi f=>by omega) v.size;have γ:=y.bx u ah;have δ:=y.bx g ah;have ε:=r.w s (dA E);have ζ:=hid (Ic s F (Utf8Tabs_below hT K));rw[av ε] at ζ;have HB:=hid K;have H0:=hid γ;have H1:=hid δ;have HK:=hid y;clear K γ δ y v u g ε
  gi_wp2
  refine⟨trivial,λh=>(by cases h),?_⟩;refine(CallsIn.inRound _ (callsIn_wide.2 ζ.q)).mono ?_;rintro e W3 ⟨rfl,z⟩;have ν:=hid (HB.q.bQ z);have ξ:=hid (H0.q.keep z);have P:=hid (H1.q.keep z);have Q:=hid z;have Δ:=P.q.1;have Θ:=P.q.2.1;have HZ:=hid (show j.1.size+3<=F.1.size by have:=HK.q.size;omega);clear z
  gi_wp2
  have ο:(((l++[x]).length:Nat):Int)=(l.length:Int)+1:=by rw[bO];rfl
  refine⟨⟨(C _ _ _ _ (by simp;omega)).trans (Q.q.block _ (by have:=HZ.q;omega)),(C _ _ _ _ (by simp;omega)).trans (Q.q.block _ (by have:=HZ.q;omega))⟩,
   (bA.of_below Q.q (λi _ f=>f)).trans ⟨by simp[I],λi f _=>C _ _ _ _ (by simp;omega)⟩,ν.q.setCell (p:=⟨w.1.size+1,0,none⟩) ak _,ξ.q.of_eq (by simp[I]) (C _ _ _ _ ak),?_⟩
  rw[ο];exact P.q.set1 _
end Yd
namespace Yd
open Go Go.RowKit Go.Proofs Go.Maps Tryz
open Go renaming bodyPost_ret->I,World->L
open Go.Obj renaming cells->G
open Go.Value renaming slice->D,int->H,string->J
open Yd renaming hid->C
def AA (a:List Bs)(s:Bs):Int:=if s∈a then(a.idxOf s:Int) else -1
theorem Ot (d:List Bs)(a:Option Addr)(c:Nat)(s:Bs)(w:L)(j:Row w 1 encStr a d.length c d):
  Calls Tryz.prog 199 #[D a d.length c,J ⟨s.toArray⟩] w (cO (H .i64 (AA d s)) w):=by
 have Q:=j.le;have A:=C j;obtain⟨R,k⟩:∃R,R=AA d s:=⟨_,rfl⟩;rw[<-k];have q:=C k;clear j k;go_enter func199,ntmps199;go_wp2_with fail
 go_loopw [8] (λv wr=>∃i:Nat,v= H .i64 i/\i<=d.length/\s∉d.take i/\wr=w) (λv _=>d.length - (RowKit.intOf v).toNat)
 case atStart=>exact⟨0,rfl,bn _,by simp,rfl⟩
 case round=>
  obtain⟨i,rfl,S,e,rfl⟩:=hrel;by_cases r:i<d.length
  .obtain⟨x,b,o,l,rfl,m⟩:=A.q.at_ r
   have B:=m 0 _ rfl;simp only[gJ,dB] at B;have t:=C e;have n:=C l;have T:Hid (wrap64 ((i:Int)+1)=((i+1:Nat):Int)):=C (by unfold wrap64;omega);by_cases g:x=s
   .subst g
    have p:R=(i:Int):=by
     rw[q.q];unfold AA;rw[av (dA n.q)];have E:=bK.1 n.q;have u:d=d.take i++x::d.drop (i+1):=by
      obtain⟨u,h⟩:=E;rw[<-h,List.getElem_cons_drop,qA]
     have h:(d.take i++x::d.drop (i+1)).idxOf x=i:=by
      rw[List.idxOf_append,au t.q];simp[fB];omega
     rw[<-u] at h;rw[h]
    subst p;clear l e m;go_wp2_with fail;go_ret;exact⟨rfl,Below.refl _ _⟩
   .have W:(s==x)=false:=aX.2 (Ne.symm g)
    have F:=C g;have y:s∉d.take (i+1):=by
     rw[ig,n.q];intro f;rcases cu.1 f with f|f
     .exact t.q f
     .have:s=x:=by simpa using f
      exact F.q this.symm
    have K:=C y;clear l e m g y;go_wp2_with fail;go_roundw
    case rel=>exact⟨i+1,by simp,by omega,K.q,trivial⟩
    case measure=>exact FD (z:=(i:Int)+1) ak r
  .have P:i=d.length:=by omega
   subst P;have p:R= -1:=by
    rw[q.q];unfold AA;rw[au (by rw[List.take_length] at e;exact e)]
   subst p;clear e;go_wp2_with fail;go_ret;exact⟨rfl,Below.refl _ _⟩
theorem L6 (b:List Bs)(a:Option Addr)(c:Nat)(s:Bs)(w:L)(g:Row w 1 encStr a b.length c b)(i:zw b)(j:Lib.Utf8Tabs 6 7 w):
  Calls Tryz.prog 190 #[.agg #[D a b.length c],J ⟨s.toArray⟩] w (cO (.tuple #[H .i64 (if s∈b then(b.idxOf s:Int) else 0),.bool (decide (s∈b))]) w):=by
 have l:=aA (Below.refl w.1.size w) (G #[D a b.length c] 163);have E:=C (Ot b a c s _ (g.below l rfl));have S:=C g;have T:=C j;have X:=C i;have t:=C l;have F:=C (Bx.new w #[D a b.length c] 163);have K:=C (λW (u:Below w.1.size w W)=>DZ b a c W (g.below u rfl) i (Utf8Tabs_below j u));obtain⟨A,m⟩:∃A:Int,A=(if s∈b then(b.idxOf s:Int) else 0):=⟨_,rfl⟩;obtain⟨B,n⟩:∃B:Bool,B=decide (s∈b):=⟨_,rfl⟩;rw[<-m,<-n];have x:=C m;have y:=C n;clear l g j i m n;go_enter func190,ntmps190;go_wp2_with fail;refine E.q.mono ?_;rintro e Y ⟨rfl,o⟩;have h:=C (t.q.bQ o);have P:=F.q.keep o;have Q:=P.1;clear o;by_cases d:s∈b
 .obtain⟨k,p⟩:∃k,k=b.idxOf s:=⟨_,rfl⟩
  have f:AA b s=(k:Int):=by unfold AA;rw[av d,p]
  have q:A=(k:Int):=by rw[x.q,av d,p]
  have r:B=true:=by rw[y.q,bT d]
  subst q r;rw[f];have Z:decide ((k:Int)<0)=false:=bE ah;clear f d p;go_wp2_with fail;refine(K.q _ h.q).mono ?_;rintro e w2 ⟨rfl,z⟩;have R:=C (h.q.bQ z);clear z Q;go_wp2_with fail;refine I (v:= .tuple #[H .i64 (k:Int),.bool true]) (by simp[results,results190,go_sem]) rfl ?_;exact⟨rfl,R.q⟩
 .have f:AA b s= -1:=by unfold AA;rw[au d]
  have q:A=0:=by rw[x.q,au d]
  have r:B=false:=by rw[y.q,bE d]
  subst q r;rw[f];clear f d;go_wp2_with fail;refine I (v:= .tuple #[H .i64 0,.bool false]) (by simp[results,results190,go_sem]) rfl ?_;exact⟨rfl,h.q⟩
theorem Row.st1 (w:L)(s:Bs):Row (w.alloc (G #[J ⟨s.toArray⟩] 9)) 1 encStr (some ⟨w.1.size,0,none⟩) 1 1 [s]:=
 (Own.new (hc:=eX) w w.1.size 9 #[J ⟨s.toArray⟩] [s] (aB _) rfl (by simp[maxLen])).row ak
def V7 (a:List Bs)(s:Bs)(w:L)(e:Ending)(b:L):Prop:=
 Below w.1.size w b/\if s∈a\/a.length<300 then ∃c d,e= .returned (.tuple #[.agg #[D c (dJ a s).length d],H .i64 (qd a s:Int),H .i64 0])/\Own b w.1.size 9 1 encStr (D c (dJ a s).length d) (dJ a s)
  else e= .returned (.tuple #[.agg #[D none 0 0],H .i64 0,H .i64 6])
theorem Ou (b:List Bs)(a:Option Addr)(c:Nat)(s:Bs)(w:L)(F:Row w 1 encStr a b.length c b)(q:zw b)(hs:bG ⟨s.toArray⟩=true)(K:Lib.Utf8Tabs 6 7 w):
  Calls Tryz.prog 176 #[.agg #[D a b.length c],J ⟨s.toArray⟩] w (V7 b s w):=by
 obtain⟨i,z,hi⟩:=l8;have r:=C hi;clear hi;have HF:=C (λW (d:Below w.1.size w W)=>DZ b a c W (F.below d rfl) q (Utf8Tabs_below K d));have HN:=C (λW (d:Below w.1.size w W)=>L6 b a c s W (F.below d rfl) q (Utf8Tabs_below K d));have HC:=C (λW (d:Below w.1.size w W)=>(by have:=Ic s W (Utf8Tabs_below K d);rw[av hs] at this;exact this:Calls Tryz.prog 94 #[J ⟨s.toArray⟩] W (cO (H .i64 0) W)));have HK:=C (λW (d:Below w.1.size w W)=>lJ a c b W (F.below d rfl) (by have:=q.l;omega));have α:=C (aA (aA (Below.refl w.1.size w) (G #[D a b.length c] 163)) (G #[D none 0 0] 163));have β:Hid (Bx ((w.alloc (G #[D a b.length c] 163)).alloc (G #[D none 0 0] 163)) w.1.size #[D a b.length c]/\Bx ((w.alloc (G #[D a b.length c] 163)).alloc (G #[D none 0 0] 163)) (w.1.size+1) #[D none 0 0]):=C
  ⟨(Bx.new w _ _).alloc _,by have:=Bx.new (w.alloc (G #[D a b.length c] 163)) #[D none 0 0] 163;rw[World.size_alloc] at this;exact this⟩
 have γ:=C q.l;clear F q hs K;go_enter func176,ntmps176;have l:=β.q.1.1;go_wp2_with fail;refine(HF.q _ α.q).mono ?_;rintro e w1 ⟨rfl,P⟩;have δ:=C (α.q.bQ P);have ε:=C (⟨β.q.1.keep P,β.q.2.keep P⟩:_/\_);clear P l;have l:=ε.q.1.1;go_wp2_with fail;refine(HC.q _ δ.q).mono ?_;rintro e w2 ⟨rfl,Q⟩;have m:=C (δ.q.bQ Q);have R:=C (⟨ε.q.1.keep Q,ε.q.2.keep Q⟩:_/\_);clear Q l;have l:=R.q.1.1;go_wp2_with fail;refine(HK.q _ m.q).mono ?_;rintro e w3 ⟨S,T,rfl,κ,t⟩;have ο:=C κ;have ζ:=C R.q.2.2.2;have π:=C t.size;have η:=C (m.q.bQ t);have θ:=C (⟨R.q.1.keep t,R.q.2.keep t⟩:_/\_);clear t l κ;have l:=θ.q.1.1;go_wp2_with fail;refine(HN.q _ η.q).mono ?_;rintro e X ⟨rfl,n⟩;have ρ:=C n.size;have Y:=C (η.q.bQ n);have o:=C (⟨θ.q.1.keep n,θ.q.2.keep n⟩:_/\_);have u:=C (ο.q.below n rfl);have Δ:=C (show w.1.size+1<X.1.size from o.q.2.2.2);clear n l;have Θ:=o.q.2.1;have Ξ:=o.q.2.2.1;by_cases j:s∈b
 .obtain⟨k,hk⟩:∃k,k=b.idxOf s:=⟨_,rfl⟩
  have Z:=C (⟨j,hk⟩:_/\_);have x:(if s∈b then(b.idxOf s:Int) else 0)=(k:Int):=by rw[av j,hk]
  have y:decide (s∈b)=true:=bT j;rw[x,y];clear x y j hk;go_wp2_with fail;have A:=o.q.2.set1 (D S b.length T);have B:=A.1 0;refine I (v:= .tuple #[.agg #[D S b.length T],H .i64 (k:Int),H .i64 0]) (by simp[results,results176,go_sem,B]) rfl ?_;refine⟨Y.q.setCell (p:=⟨w.1.size+1,0,none⟩) ak _,?_⟩;rw[av (.inl Z.q.1),BD Z.q.1,Ov Z.q.1,<-Z.q.2];exact⟨S,T,rfl,(u.q.block (λg E=>Below.heap_setCell _ _ _ _ (by have:=(u.q.lt g E).1;have:=ζ.q;simp;omega))).mono m.q.size⟩
 .have x:(if s∈b then(b.idxOf s:Int) else 0)=0:=by rw[au j]
  have y:decide (s∈b)=false:=bE j;rw[x,y];have HM:=C j;clear x y j;by_cases f:b.length=300
  .have hq:((b.length:Int)==300)=true:=by rw[f];rfl
   have σ:(b.length==300)=true:=by rw[f];rfl
   have τ:decide (b.length=300)=true:=bT f;have υ:decide ((b.length:Int)=300)=true:=bT ah;have H3:=C f;clear f;go_wp2_with fail;have A:=o.q.2.set1 (D none 0 0);have B:=A.1 0;refine I (v:= .tuple #[.agg #[D none 0 0],H .i64 0,H .i64 6]) (by simp[results,results176,go_sem,B]) rfl ?_;refine⟨Y.q.setCell (p:=⟨w.1.size+1,0,none⟩) ak _,?_⟩;rw[au (by have:=H3.q;rintro(h|h);exact HM.q h;omega)]
  .have hq:((b.length:Int)==300)=false:=aX.2 ah
   have σ:(b.length==300)=false:=aX.2 f;have τ:decide (b.length=300)=false:=bE f;have υ:decide ((b.length:Int)=300)=false:=bE ah;have H3:=C f;clear f;have φ:Hid ((Value.slice S b.length T).ownBlock≠some (w.1.size+1)):=C (λe=>by have:=(u.q.lt _ e).1;have:=ζ.q;omega);have χ:Hid ((b.length+1)*16<=140737488355328):=C (by have:=γ.q;omega);have ψ:Hid (b.length+1<=maxLen):=C (by have:=γ.q;unfold maxLen;omega);have μ:Hid (w2.1.size<=(X.alloc (G #[J ⟨s.toArray⟩] 9)).1.size):=C (by have h1:=π.q;have h2:=ρ.q;simp;omega)
   go_wp2_with (at_builtin;refine iP rfl _ _ 22 rfl i z 16 underlying22 r.q.1 r.q.2.1 r.q.2.2.1 r.q.2.2.2.1 r.q.2.2.2.2 rfl (u.q.alloc _) (some ⟨X.1.size,0,none⟩) 1 1 (b.length+1) [s] rfl (Row.st1 X s) rfl χ.q ψ.q μ.q ?_;intro a' c' w6 ν ξ Φ;have ι:=(o.q.2.alloc (G #[J ⟨s.toArray⟩] 9)).grown ξ φ.q;have Ψ:=ι.1;have Ω:=ι.2.1)
   have ω:Hid (∀g,(Value.slice a' (b.length+1) c').ownBlock=some g->g≠w.1.size+1):=C (λg E e=>by
    have:=(ν.lt g E).1;have:=ζ.q;omega)
   have Γ:=below_app (Y.q.alloc Y.q.size _) (u.q.alloc _) m.q.size (bI m.q.size μ.q) ξ;have A:=ι.set1 (D a' (b.length+1) c');have B:=A.1 0;refine I (v:= .tuple #[.agg #[D a' (b.length+1) c'],H .i64 (b.length:Int),H .i64 0]) (by simp[results,results176,go_sem,B]) rfl ?_;refine⟨Γ.setCell (p:=⟨w.1.size+1,0,none⟩) ak _,?_⟩;rw[av (.inr (by have:=H3.q;have:=γ.q;omega)),KE HM.q,zx HM.q,bO];exact⟨a',c',rfl,(ν.block (λg E=>Below.heap_setCell _ _ _ _ (by have:=ω.q g E;simp;omega))).mono m.q.size⟩
end Yd
namespace Yd
open Go Go.RowKit Go.Proofs Tryz
def jT:List PanicEntry:=[⟨.iface 31 (.int .i64 6),false,false⟩]
theorem lI (b:Bool)(w:World):Calls Tryz.prog 151 #[.bool b] w λe a=>a=w/\e=if b=true then .returned (.tuple #[]) else .panicked jT:=by
 cases b
 .go_enter func151,ntmps151
  go_wp2
  exact⟨rfl,rfl,rfl⟩
 .go_enter func151,ntmps151
  go_wp2
  refine bodyPost_end (results_none rfl _ _ _) rfl ?_;exact⟨rfl,rfl⟩
end Yd
