import Derived.Test.YtiheclemhihpeaaGreatDoorZFsP
import Derived.Test.YtiheclemhihpeaaGreatDoorZShelf
import Derived.LoopIn
import Derived.LoopNIn
import Derived.TacticsInMore
import Derived.OwnWalkIn
import Derived.Shelf.Abstract
import Derived.Shelf.RegionOpen
import Derived.Lib.OthersKept
import Derived.Lib.RuneCountTail
import Derived.WalkMore
import Derived.ScopeJumps
import Derived.Maps.Own
import Derived.Maps.Views
import Derived.Maps.Keyed
import Derived.StringKeys
import Derived.Maps.OwnSet
import Derived.Test.YtiheclemhihpeaaGreatDoorZOrdV
import Derived.Scope
set_option linter.all false
set_option maxRecDepth 200000
set_option maxHeartbeats 8000000
namespace Yd
open Go Go.RowKit Go.Proofs Tryz
open Go.Value renaming pointer->G,int->M
open Lib renaming iterAt_size->H,decodeGo->N
open Tryz renaming prog->L
open Utf8 renaming decode->C
open _root_ renaming ByteArray->I,Nat->J
def okB (s:I)(pos:J):Bool:=!(((C s pos).1:Int)==65533)||decide (1<((C s pos).2:Int))
variable{pos:J}
theorem WX {s:I}(h:(((C s pos).1:Int)==65533)=false):okB s pos=true:=by unfold okB;rw[h];rfl
theorem WY {s:I}(h:(((C s pos).1:Int)==65533)=true):okB s pos=decide (1<((C s pos).2:Int)):=by unfold okB;rw[h];rfl
theorem EB (s:I)(pos:J)(h:pos<s.size):N (s.extract pos s.size)=C s pos:=by
 unfold N;rw[ay (by rw[Lib.tail_size];omega),Lib.tail_decode,bK]
theorem Vw (s:I)(pos:J)(o:pos<s.size)(j k l:J)(w:World)(A:Bx w j #[.string s])(B:Bx w k #[M .i64 pos])(p:Bx w l #[.int .i32 (C s pos).1])(q:Lib.Utf8Tabs 7 8 w):
  Calls L 193 #[G (some ⟨j,0,none⟩),G (some ⟨k,0,none⟩),G (some ⟨l,0,none⟩)] w (nE (.int .i32 (C s pos).1) (.bool (okB s pos)) w):=by
 have t:=hid (Tryz.utf8_DecodeRuneInString (s.extract pos s.size) w q);have u:=hid (EB s pos o);have x:=hid p;obtain⟨r,a⟩:=kP (((C s pos).1:Int):Int);obtain⟨d,b⟩:=kP (((C s pos).2:Int):Int);have f:(r==65533)=false->okB s pos=true:=λh=>WX (by rw[<-a];exact h)
 have g:(r==65533)=true->okB s pos=decide (1<d):=λh=>by rw[b];exact WY (by rw[<-a];exact h)
 rw[<-a];go_enter func193,ntmps193;go_wp2_with fail;refine t.q.mono ?_;rintro e E ⟨rfl,m⟩;rw[u.q,<-a,<-b];have y:=(x.keep m).1;rw[<-a] at y;have n:=hid m;have F:=hid a;have K:=hid b;clear a b;by_cases c:¬r=65533
 .have z:(r==65533)=false:=aN.2 c
  have i:=hid (f z);clear f g
  go_wp2
  refine bodyPost_ret (v:= .tuple #[.int .i32 r,.bool (okB s pos)]) (by simp[results,results193,go_sem,i.q]) rfl ⟨rfl,n⟩
 .have c:=nZ.1 c
  subst c;have i:=hid (g rfl);clear f g
  go_wp2
  refine bodyPost_ret (v:= .tuple #[.int .i32 65533,.bool (okB s pos)]) (by simp[results,results193,go_sem,i.q]) rfl ⟨rfl,n⟩
def bH (s:I):J->J->List J
 |0,_=>[]
 |n+1,a=>if a<s.size then a::bH s n (a+(C s a).2) else []
def I6 (s:I)(b B:J)(pos:J)(args:Array Value)(X:World):Prop:=
 pos<s.size/\∃a c,b<a/\B<a/\a<c/\args=#[M .i64 pos,.func (.func 193) #[] #[G (some ⟨b,0,none⟩),G (some ⟨a,0,none⟩),G (some ⟨c,0,none⟩)]]/\
  Bx X b #[.string s]/\Bx X a #[M .i64 pos]/\Bx X c #[.int .i32 (C s pos).1]
theorem width_pos (s:I)(pos:J)(h:pos<s.size):1<=(C s pos).2:=by
 by_cases ha:(s[pos]'h).toNat<128
 .rw[decode_ascii s pos h ha]
  exact aC _
 .exact(decode_high s pos h ah).2
theorem iN (W:World)(s:I):Below W.1.size W (W.iter s 0):=(Below.refl _ _).alloc (aC _) _
theorem Sb:∀args w,(callFunc 192 args).run L w= .ok (.enter 192 args) w:=enters_of func192 au rfl
attribute [local go_sem] Oper.semAt_some
theorem Kt (s:I)(c:J)(D:J->Prop)(W:World)(A:Bx W c #[.string s])(B:D c)(α:D W.1.size):
  Iter L 192 #[G (some ⟨c,0,none⟩)] (I6 s c W.1.size) 1 D (bH s s.size 0) W:=by
 intro n l E Jx F π hY h0;refine callsIn_of_wp func192 rfl trivial ?_ rfl;simp only[ntmps192,uR,iC,nk,Nat.reduceAdd,Nat.reduceSub,vF,vG,sD,sF,pO,jl]
 gi_wp2
 gi_loopw [] (λwr=>∃(b d:J)(g:List J),g++bH s d b=bH s s.size 0/\wr.1[W.1.size]?=some (.stringIter s b)/\E g wr/\Bx wr c #[.string s]/\s.size<=b+d) (λwr=>s.size - wr.iterPos W.1.size)
 case atStart=>
  refine⟨0,s.size,[],rfl,World.iter_heap W s 0,?_,A.keep (iN W s),by omega⟩;exact F _ _ _ h0 (.of_below (iN W s) (λi _ r=>r))
 case round=>
  obtain⟨b,d,g,t,u,K,m,β⟩:=hrel;have x:W.1.size<wr.1.size:=(fH.1 u).1;by_cases o:b<s.size
  .have γ:∀j,(Instr.next (G (some ⟨W.1.size,0,none⟩)) true j).run L wr=_:=λj=>Lib.run_next_any_at wr W.1.size s b j u o
   have δ:=width_pos s b o;obtain⟨f,rfl⟩:∃f,d=f+1:=⟨d - 1,by omega⟩;have ε:bH s (f+1) b=b::bH s f (b+(C s b).2):=by simp[bH,o]
   rw[ε] at t;have ζ:=Lib.iterAt_heap wr W.1.size s b (b+(C s b).2) u;obtain⟨X,p⟩:=kP (((wr.iterAt W.1.size s (b+(C s b).2)).alloc (.cells #[M .i64 b] 3)).alloc (.cells #[.int .i32 (C s b).1] 21));have v:Below wr.1.size (wr.iterAt W.1.size s (b+(C s b).2)) X:=by
    rw[p];exact((Below.refl _ _).alloc (by rw[H];exact aC _) _).alloc (by simp[H]) _
   have P:X.1.size=wr.1.size+2:=by rw[p];simp[H]
   have y:∀i,i<wr.1.size->i≠W.1.size->X.1[i]?=wr.1[i]?:=λi r η=>(v.block i r).trans (Lib.iterAt_other wr _ i s _ η)
   have θ:E g X:=F _ _ _ K ⟨v.os,v.tape,v.output,by omega,λi ρ r=>y i r ah⟩;have Q:c≠W.1.size:=by have:=A.2.2;omega
   have R:Bx X c #[.string s]:=⟨λi=>(World.cell?_of_block (a:=⟨c,i,none⟩) (y c m.2.2 Q)).trans (m.1 i),λi=>(World.frozen?_of_block (a:=⟨c,i,none⟩) (y c m.2.2 Q)).trans (m.2.1 i),by rw[P];have:=m.2.2;omega⟩;have ι:Bx X wr.1.size #[M .i64 b]:=by
    have:=(Bx.new (wr.iterAt W.1.size s (b+(C s b).2)) #[M .i64 b] 3).alloc (.cells #[.int .i32 (C s b).1] 21);rw[H,<-p] at this;exact this
   have κ:Bx X (wr.1.size+1) #[.int .i32 (C s b).1]:=by
    have:=Bx.new ((wr.iterAt W.1.size s (b+(C s b).2)).alloc (.cells #[M .i64 b] 3)) #[.int .i32 (C s b).1] 21;rw[World.size_alloc,H,<-p] at this;exact this
   have μ:X.1[W.1.size]?=some (.stringIter s (b+(C s b).2)):=(v.block _ x).trans ζ;obtain⟨fn,σ,τ,υ,hy,S⟩:=hY g b #[M .i64 b,.func (.func 193) #[] #[G (some ⟨c,0,none⟩),G (some ⟨wr.1.size,0,none⟩),G (some ⟨wr.1.size+1,0,none⟩)]] X θ
    ⟨bH s f (b+(C s b).2),by rw[<-t];simp⟩ ⟨o,wr.1.size,wr.1.size+1,m.2.2,x,by omega,rfl,R,ι,κ⟩ ah (n - 1)
   have T:=hid p;have HK:=hid R;have w:=hid (⟨t,μ,x,β,δ,P,u⟩:_/\_/\_/\_/\_/\_/\_);rw[p] at hy S;have φ:=H wr W.1.size s (b+(C s b).2)
   gi_wp2
   refine⟨λh=>(by cases h),?_⟩
   apply S.mono
   rintro e Y (⟨rfl,ν,q⟩|⟨rfl,ξ,_⟩)
   .skip
    have Z:Y.1[W.1.size]?=some (.stringIter s (b+(C s b).2)):=by
     have k:=w.q;have z:=T.q;rw[<-z] at q;exact(q.2 _ α ah).trans k.2.1
    have ο:Bx Y c #[.string s]:=by
     have k:=HK;have z:=T;rw[<-z] at q;exact⟨λi=>(World.cell?_of_block (a:=⟨c,i,none⟩) (q.2 _ B k.2.2)).trans (k.1 i),λi=>(World.frozen?_of_block (a:=⟨c,i,none⟩) (q.2 _ B k.2.2)).trans (k.2.1 i),kS k.2.2 q.1⟩
    gi_wp2
    go_roundw
    case rel=>exact⟨b+(C s b).2,f,g++[b],by rw[<-w.q.1];simp,Z,ν,ο,by have:=w.q;omega⟩
    case measure=>
     have:=w.q;simp only[World.iterPos,Z,this.2.2.2.2.2.2];omega
   .skip
    gi_wp2
    apply bodyPost_ret (results_none rfl _ _ _) rfl
    exact⟨_,rfl,.inr ⟨g++[b],⟨bH s f (b+(C s b).2),by rw[<-w.q.1];simp⟩,ξ⟩⟩
  .have γ:∀j,(Instr.next (G (some ⟨W.1.size,0,none⟩)) true j).run L wr=_:=λj=>Lib.run_next_end_at wr W.1.size s b j u o
   gi_wp2
   go_end0
   refine⟨_,rfl,.inl ?_⟩;have:bH s d b=[]:=by cases d <;> simp[bH,o]
   rw[this,eG] at t;rw[<-t];exact K
end Yd
namespace Yd
open Go Go.RowKit Go.Proofs Tryz
open Below renaming heap_setCell->G,refl->H
open Go.Obj renaming cells->C
attribute [local go_sem] Oper.semAt_some
theorem M4 (s:ByteArray)(w:World):Calls Tryz.prog 160 #[.string s] w λe w'=>e= .returned (.func (.func 192) #[] #[.pointer (some ⟨w.1.size,0,none⟩)])/\w'=w.alloc (C #[.string s] 9):=by
 go_enter func160,ntmps160;go_wp2_with fail;go_ret;exact⟨rfl,rfl⟩
def mE (s:ByteArray)(p:Int->Bool)(pos:Nat):Bool:=!(okB s pos && p (Utf8.decode s pos).1)
def gB (s:ByteArray)(p:Int->Bool):Nat:=((bH s s.size 0).find? (mE s p)).getD s.size
theorem Pv {l a:List Nat}{x:Nat}{q:Nat->Bool}(h:a++[x]<+:l)(ha:∀y∈a,q y=false)(b:q x=true):l.find? q=some x:=by
 obtain⟨t,rfl⟩:=h;rw[fP,List.find?_append,List.find?_eq_none.2 (λy c=>by simp[ha y c])];simp[b]
theorem Bx.set1 {X:World}{b:Nat}{u:Value}(h:Bx X b #[u])(v:Value):Bx (X.setCell ⟨b,0,none⟩ v) b #[v]:=by
 refine⟨λi=>?_,λi=>by rw[World.frozen?_setCell];exact h.2.1 i,by have:=h.2.2;simpa[World.setCell] using this⟩
 cases i with
 |zero=>exact World.cell?_setCell_same' _ _ _ (by rw[h.1 0];rfl)
 |succ i=>rw[World.cell?_setCell_other _ _ _ _ ak];rw[h.1 (i+1)];simp
theorem rT (s:ByteArray)(gf:Nat)(lb:Array Value)(eg:∀R w,(callFunc gf R).run Tryz.prog w= .ok (.enter gf R) w)(p:Int->Bool)(w:World)
  (hp:∀(r:Int) Z,Below w.1.size w Z->Calls Tryz.prog gf (#[.int .i32 r]++lb) Z (bT (.bool (p r)) Z)) (hT:Lib.Utf8Tabs 7 8 w):
  Calls Tryz.prog 109 #[.string s,.func (.func gf) #[] lb] w (bT (.int .i64 (gB s p)) w):=by
 refine(callsIn_wide (n:=3)).1 ?_;refine callsIn_of_wp_marks func109 rfl trivial ?_ rfl;simp only[ntmps109,uR,iC,nk,Nat.reduceAdd,Nat.reduceSub,vF,vG,sD,sF,pO,jl];refine wpIn_wide.2 ?_;go_wp2_with fail
 go_step3
 go_wp2_with fail
 go_step3
 go_wp2_with (go_at_call 160;refine(M4 _ _).mono ?_;rintro e w' ⟨rfl,rfl⟩)
 have ι:((w.alloc (C #[.func (.func gf) #[] lb] 114)).alloc (C #[.int .i64 s.size] 3)).1.size=w.1.size+2:=by simp
 have κ:(((w.alloc (C #[.func (.func gf) #[] lb] 114)).alloc (C #[.int .i64 s.size] 3)).alloc (C #[.string s] 9)).1.size=w.1.size+3:=by simp
 have α:Below w.1.size w (((w.alloc (C #[.func (.func gf) #[] lb] 114)).alloc (C #[.int .i64 s.size] 3)).alloc (C #[.string s] 9)):=
  (((H w.1.size w).alloc (aC _) _).alloc ak _).alloc (by simp;omega) _
 have β:Bx (((w.alloc (C #[.func (.func gf) #[] lb] 114)).alloc (C #[.int .i64 s.size] 3)).alloc (C #[.string s] 9)) w.1.size #[.func (.func gf) #[] lb]:=
  ((Bx.new w #[.func (.func gf) #[] lb] 114).alloc _).alloc _
 have γ:Bx (((w.alloc (C #[.func (.func gf) #[] lb] 114)).alloc (C #[.int .i64 s.size] 3)).alloc (C #[.string s] 9)) (w.1.size+1) #[.int .i64 s.size]:=by
  have:=(Bx.new (w.alloc (C #[.func (.func gf) #[] lb] 114)) #[.int .i64 s.size] 3).alloc (C #[.string s] 9);rw[World.size_alloc] at this;exact this
 have δ:Bx (((w.alloc (C #[.func (.func gf) #[] lb] 114)).alloc (C #[.int .i64 s.size] 3)).alloc (C #[.string s] 9)) (w.1.size+2) #[.string s]:=by
  have:=Bx.new ((w.alloc (C #[.func (.func gf) #[] lb] 114)).alloc (C #[.int .i64 s.size] 3)) #[.string s] 9;rw[ι] at this;exact this
 clear ι;revert κ α β γ δ;generalize((w.alloc (C #[.func (.func gf) #[] lb] 114)).alloc (C #[.int .i64 s.size] 3)).alloc (C #[.string s] 9)=V;intro κ α β γ δ;refine wpIn_wide.1 (DX (n:=3) (gf:=192) (lb:=#[.pointer (some ⟨w.1.size+2,0,none⟩)]) (by simp[go_sem]) Sb
  (lN:=I6 s (w.1.size+2) (V.1.size+2)) (k:=1) (D:=λi=>i<w.1.size\/i=w.1.size+2\/i=w.1.size+5) (xs:=bH s s.size 0)
  (λW hW Δ=>by have:=Kt s (w.1.size+2) (λi=>i<w.1.size\/i=w.1.size+2\/i=w.1.size+5) W (δ.keep hW) (.inr (.inl rfl)) (.inr (.inr ah));rw[Δ] at this;exact this) ah
  (λx R X h=>by obtain⟨_,_,_,_,_,_,rfl,_⟩:=h;rfl)
  (λf X=>Below w.1.size w X/\Bx X w.1.size #[.func (.func gf) #[] lb]/\Bx X (w.1.size+1) #[.int .i64 s.size]/\∀y∈f,mE s p y=false)
  (λc f X=>c= .exit 0/\Below w.1.size w X/\∃b E,f=E++[b]/\(∀y∈E,mE s p y=false)/\mE s p b=true/\Bx X (w.1.size+1) #[.int .i64 b])
  (λf X Y h k=>⟨k.below h.1 (λi a=> .inl ah) h.1.size,k.bx h.2.1 (.inl ah),k.bx h.2.2.1 (.inl ah),h.2.2.2⟩)
  (λc f X Y h k=>by
   obtain⟨j,h2,b,E,h3,h4,h5,h6⟩:=h;exact⟨j,k.below h2 (λi a=> .inl ah) h2.size,b,E,h3,h4,h5,k.bx h6 (.inl ah)⟩)
  ⟨α,β,γ,λ_ h=>by cases h⟩ ?round ?done ?stop)
 case done=>
  rintro X ⟨g,h0,j,o⟩ ε;have hc:=j.1;simp only[Exit.inBlock,Exit.then];go_wp2_with fail;refine⟨by simp,.inl ⟨_,_,rfl,run_takeDeferred ε,?_⟩⟩;refine⟨_,results_tmp rfl _ _ _,?_,(Same.putObj (A:=λi=>i<w.1.size) X _ ah).below g (λi a=>a) g.size⟩;rw[gB,List.find?_eq_none.2 (λy hy=>by simp[o y hy])];rfl
 case stop=>
  rintro c f X μ ⟨rfl,g,b,E,rfl,o,Θ,j⟩ ε;have hc:=j.1;refine wpIn_wide.2 ?_;go_wp2_with fail;refine⟨by simp,.inl ⟨_,_,rfl,run_takeDeferred ε,?_⟩⟩;refine⟨_,results_tmp rfl _ _ _,?_,(Same.putObj (A:=λi=>i<w.1.size) X _ ah).below g (λi a=>a) g.size⟩;rw[gB,Pv μ o Θ];rfl
 case round=>
  rintro f b R X ⟨g,h0,j,o⟩ μ ⟨Ξ,b3,b4,v,Φ,d,rfl,ν,ξ,ο⟩ Ψ m
  gi_wp2
  refine⟨H _ _,λS l=>?_⟩;have ζ:Below w.1.size w S:=l.below g (λi a=>by omega) g.size;have π:=l.bx h0 ah;have ρ:=l.bx j ah;have σ:=l.bx ν ah;have τ:=l.bx ξ ah;have υ:=l.bx ο ah;have φ:Lib.Utf8Tabs 7 8 S:=Utf8Tabs_below hT ζ;have z:=hid (show V.1.size+3<=S.1.size by have:=l.size;omega);have HR:=hid (Vw s b Ξ (w.1.size+2) b3 b4 S σ τ υ φ);have HB:=hid ζ;have H0:=hid π;have H1:=hid ρ;clear σ τ υ φ ζ π ρ l ν ξ ο g h0 j
  gi_wp2
  refine⟨trivial,λh=>(by cases h),?_⟩;refine(CallsIn.inRound _ (callsIn_wide.2 HR.q)).mono ?_;rintro e W3 ⟨rfl,v⟩;have q:=hid (HB.q.bL v);have η:=hid (H0.q.keep v);have F:=hid (H1.q.keep v);have t:=hid v;have χ:=(η.q).1;clear v;have ψ:=F.q.1;have ω:=F.q.2.1
  cases B:okB s b
  .have K:=hid B;clear B
   gi_wp2
   refine⟨λ_ h=>(by cases h),?_⟩
   gi_wp2
   exact⟨⟨(G _ _ _ _ (by simp;omega)).trans (t.q.block _ (by have:=z.q;omega)),(G _ _ _ _ (by simp;omega)).trans (t.q.block _ (by have:=z.q;omega))⟩,
    (bM.of_below t.q (λi _ a=>a)).trans ⟨by simp[World.setCell],λi a _=>G _ _ _ _ (by simp;omega)⟩,rfl,q.q.setCell (p:=⟨w.1.size+1,0,none⟩) ak _,b,f,rfl,o,by simp[mE,K.q],F.q.set1 _⟩
  .cases T:p (Utf8.decode s b).1
   .have K:=hid B;have P:=hid T
    clear B T
    gi_wp2
    refine⟨trivial,λh=>(by cases h),?_⟩;refine(CallsIn.inRound _ (callsIn_wide.2 (hp _ _ q.q))).mono ?_;rintro e W4 ⟨rfl,d⟩;rw[P.q];have θ:=hid (q.q.bL d);have Γ:=hid (η.q.keep d);have Q:=hid (F.q.keep d);have u:=hid (t.q.bL d);have Ω:=Q.q.1;have q0:=Q.q.2.1;clear d ψ χ ω
    gi_wp2
    exact⟨⟨(G _ _ _ _ (by simp;omega)).trans (u.q.block _ (by have:=z.q;omega)),(G _ _ _ _ (by simp;omega)).trans (u.q.block _ (by have:=z.q;omega))⟩,
     (bM.of_below u.q (λi _ a=>a)).trans ⟨by simp[World.setCell],λi a _=>G _ _ _ _ (by simp;omega)⟩,rfl,θ.q.setCell (p:=⟨w.1.size+1,0,none⟩) ak _,b,f,rfl,o,by simp[mE,K.q,P.q],Q.q.set1 _⟩
   .have K:=hid B;have P:=hid T
    clear B T
    gi_wp2
    refine⟨trivial,λh=>(by cases h),?_⟩;refine(CallsIn.inRound _ (callsIn_wide.2 (hp _ _ q.q))).mono ?_;rintro e W4 ⟨rfl,d⟩;rw[P.q];have θ:=hid (q.q.bL d);have Γ:=hid (η.q.keep d);have Q:=hid (F.q.keep d);have u:=hid (t.q.bL d);clear d ψ χ ω
    gi_wp2
    exact⟨⟨u.q.block _ (by have:=z.q;omega),u.q.block _ (by have:=z.q;omega)⟩,bM.of_below u.q (λi _ a=>a),θ.q,Γ.q,Q.q,λy hy=>by
     rcases cu.1 hy with h|h
     .exact o y h
     .obtain rfl:y=b:=by simpa using h
      simp[mE,K.q,P.q]⟩
end Yd
namespace Yd
open Go Go.RowKit Go.Proofs Tryz
theorem Du:∀args w,(callFunc 111 args).run Tryz.prog w= .ok (.enter 111 args) w:=enters_of func111 au rfl
def sw (s:ByteArray):Int:=if h:0<s.size then wrap32 (s[0]'h).toNat else 0
def bW (s:ByteArray):Bool:=!s.toList.isEmpty && decide ((s.size:Int)<=24) && !eu (sw s) && decide (gB s iA=s.size)
theorem zi (s:ByteArray)(h:¬s.toList=[]):0<s.size:=by
 rcases Nat.eq_zero_or_pos s.size with a|a
 .have e:s=ByteArray.empty:=by simpa using a
  subst e;exact absurd ak h
 .exact a
theorem BG (s:ByteArray)(w:World)(i:Lib.Utf8Tabs 7 8 w):Calls Tryz.prog 116 #[.string s] w (bT (.bool (bW s)) w):=by
 by_cases c:s.toList=[]
 .have a:bW s=false:=by simp[bW,c]
  rw[a];go_enter func116,ntmps116
  go_wp2
  go_ret;exact⟨rfl,Below.refl _ _⟩
 have j:s.toList.isEmpty=false:=by simp[c]
 have d:=zi s c;by_cases f:(s.size:Int)<=24
 .obtain⟨R,g⟩:=kP (decide (gB s iA=s.size):Bool)
  have a:bW s=(!eu (sw s) && R):=by simp[bW,j,f,g]
  have k:sw s=wrap32 (s[0]'d).toNat:=by simp[sw,d]
  rw[a,k];have l:=hid i;have m:=hid g
  cases n:eu (wrap32 (s[0]'d).toNat)
  all_goals
   have o:=hid n;go_enter func116,ntmps116;go_wp2_with fail;refine(kT _ _).mono ?_;rintro e p ⟨rfl,q⟩;rw[o.q];have b:=hid q;go_wp2_with fail
  .refine(rT s 111 #[] Du iA p (λr t _=>yD r t) (Utf8Tabs_below l.q b.q)).mono ?_
   rintro e x ⟨rfl,u⟩
   go_wp2
   go_ret;refine⟨?_,b.trans (u.mono b.size)⟩;rw[m.q];by_cases h:gB s iA=s.size
   .simp[h]
   .have v:¬((gB s iA:Int)=s.size):=by omega
    simp[h,v]
  .go_ret
   exact⟨rfl,b⟩
 .have a:bW s=false:=by simp[bW,f]
  rw[a];have y:24<(s.size:Int):=by omega
  go_enter func116,ntmps116
  go_wp2
  go_ret;exact⟨rfl,Below.refl _ _⟩
end Yd
namespace Yd
open List renaming range->V
open Option renaming some->G,none->N
open Go Go.RowKit Go.Proofs Go.Maps Tryz
open Go renaming World->M
open Go.Value renaming string->O
open Go.WideMaps renaming keyOf_string_mk->U
open Tryz renaming prog->C,underlying9->I
open World renaming cell?_of_block->H
def rD (W:M)(b:Nat)(c:List Bs):Prop:=∃a:DataW Unit,IsMap a/\W.ownsMap C 9 (plainElem C 4) b c.length a/\∀s:Bs,a.atKey (.string s) (.lit (.bool false))= .lit (.bool (decide (s∈c)))
theorem rD.new (w:M):rD (w.alloc (.map #[] 0)) w.1.size []:=⟨.map [],⟨[],rfl⟩,World.ownsMap_made _ _ _ _,λs=>by simp[DataW.atKey]⟩
theorem Pw (w:M):(zeroValue 4).run C w= .ok (.bool false) w:=au
variable{w:M}{b:Nat}{i:List Bs}
theorem rD.look (h:rD w b i)(s:Bs)(j:s.length<=24):(Instr.lookup 173 (.map (G b)) (O ⟨s.toArray⟩) false).run C w= .ok (.bool (decide (s∈i))) w:=by
 obtain⟨l,_,c,d⟩:=h;have e:keyOf C 9 (O ⟨s.toArray⟩)=G (.string s):=by
  have:=U (P:=C) (k:=9) I (s:=⟨s.toArray⟩) (by unfold maxLen;simp[ByteArray.size];omega)
  simpa using this
 obtain⟨v,m,f,a⟩:=c.lookup (string_keyed I) underlying173 (Pw w) (plainElem_bool underlying4 false) e;rw[d s] at a;have g:v= .bool (decide (s∈i)):=by
  unfold plainElem at a;simp only[underlying4] at a
  cases v <;> simp at a
  rw[a.1]
 rw[f,g]
theorem rD.put (h:rD w b i)(s:Bs)(o:s.length<=24)(d:i.length<maxLen):
  ∃w',(Instr.mapUpdate 173 (.map (G b)) (O ⟨s.toArray⟩) (.bool true)).run C w= .ok () w'/\rD w' b (i++[s])/\w.grownBy w' (G b):=by
 obtain⟨e,c,f,g⟩:=h;have j:keyOf C 9 (O ⟨s.toArray⟩)=G (.string s):=by
  have:=U (P:=C) (k:=9) I (s:=⟨s.toArray⟩) (by unfold maxLen;simp[ByteArray.size];omega)
  simpa using this
 obtain⟨w',l,m,n⟩:=f.update (string_keyed I) underlying173 d j (plainElem_bool underlying4 true);refine⟨w',l,⟨e.put (.string s) (.lit (.bool true)),c.put _ _,by simpa using m,λx=>?_⟩,n⟩;by_cases a:x=s
 .subst a
  rw[atKey_put_same c (by trivial)];simp
 .rw[atKey_put_other (by simpa using a),g x];simp[a]
variable{X:M}
theorem rD.of_eq (h:rD w b i)(e:X.1[b]?=w.1[b]?):rD X b i:=by
 obtain⟨a,c,⟨d,f,g,F,j,k⟩,l⟩:=h;exact⟨a,c,⟨d,f,e.trans g,F,j,k⟩,l⟩
theorem rD.lt (h:rD w b i):b<w.1.size:=by
 obtain⟨c,d,a,e⟩:=h;exact a.lt
theorem Bx.of_eq {Y:M}{cs:Array Value}(h:Bx X b cs)(c:X.1.size<=Y.1.size)(e:Y.1[b]?=X.1[b]?):Bx Y b cs:=
 ⟨λi=>(H (a:=⟨b,i,N⟩) e).trans (h.1 i),λi=>(World.frozen?_of_block (a:=⟨b,i,N⟩) e).trans (h.2.1 i),kS h.2.2 c⟩
theorem Bx.grown {w':M}{cs:Array Value}{row:Option Nat}(h:Bx X b cs)(a:X.grownBy w' row)(c:row≠G b):Bx w' b cs:=
 h.of_eq a.size (a.block b h.2.2 (λe=>c e.symm))
theorem zU {s:Bs}(h:bW ⟨s.toArray⟩=true):s.length<=24:=by
 simp only[bW,bD,bO] at h;have:=h.1.1.2;simp[ByteArray.size] at this;omega
theorem Gy (s:Bs)(w:M)(c:Lib.Utf8Tabs 7 8 w):Calls C 63 #[O ⟨s.toArray⟩] w (bT (.int .i64 (if bW ⟨s.toArray⟩=true then 0 else 200)) w):=by
 have i:=hid (BG ⟨s.toArray⟩ w c);obtain⟨R,a⟩:=kP ((if bW ⟨s.toArray⟩=true then 0 else 200):Int);rw[<-a];have d:=hid a;clear c a;go_enter func63,ntmps63;go_wp2_with fail;refine i.q.mono ?_;rintro e j ⟨rfl,f⟩;have g:=hid f;clear f
 cases h:bW ⟨s.toArray⟩
 .have b:R=200:=by rw[d.q,h];rfl
  subst b
  go_wp2
  go_ret;exact⟨rfl,g⟩
 .have b:R=0:=by rw[d.q,h];rfl
  subst b;clear h
  go_wp2
  go_ret;exact⟨rfl,g⟩
def pz (W:M)(b:Nat)(c:List Bs):Prop:=∃a:DataW Unit,IsMap a/\W.ownsMap C 9 (plainElem C 4) b c.length a/\(∀s:Bs,a.atKey (.string s) (.lit (.bool false))= .lit (.bool (decide (s∈c))))/\(∀s:Bs,Maps.has a (.string s)=decide (s∈c))/\Maps.size a=c.length
theorem pz.s (h:pz w b i):rD w b i:=let⟨a,c,d,e,_⟩:=h;⟨a,c,d,e⟩
theorem pz.new (w:M):pz (w.alloc (.map #[] 0)) w.1.size []:=⟨.map [],⟨[],rfl⟩,World.ownsMap_made _ _ _ _,λs=>by simp[DataW.atKey],λs=>rfl,rfl⟩
theorem pz.of_eq (h:pz w b i)(e:X.1[b]?=w.1[b]?):pz X b i:=by
 obtain⟨a,c,⟨d,f,g,F,j,k⟩,l⟩:=h;exact⟨a,c,⟨d,f,e.trans g,F,j,k⟩,l⟩
theorem pz.lt (h:pz w b i):b<w.1.size:=h.s.lt
theorem pz.put (h:pz w b i)(s:Bs)(t:s.length<=24)(f:i.length<maxLen)(g:s∉i):
  ∃w',(Instr.mapUpdate 173 (.map (G b)) (O ⟨s.toArray⟩) (.bool true)).run C w= .ok () w'/\pz w' b (i++[s])/\w.grownBy w' (G b):=by
 obtain⟨j,c,d,l,e,m⟩:=h;have n:keyOf C 9 (O ⟨s.toArray⟩)=G (.string s):=by
  have:=U (P:=C) (k:=9) I (s:=⟨s.toArray⟩) (by unfold maxLen;simp[ByteArray.size];omega)
  simpa using this
 have o:=d.tidy (string_keyed I);obtain⟨w',p,q,r⟩:=d.update (string_keyed I) underlying173 f n (plainElem_bool underlying4 true);refine⟨w',p,⟨j.put (.string s) (.lit (.bool true)),c.put _ _,by simpa using q,λx=>?_,λx=>?_,?_⟩,r⟩
 .by_cases a:x=s
  .subst a
   rw[atKey_put_same c (by trivial)];simp
  .rw[atKey_put_other (by simpa using a),l x];simp[a]
 .by_cases a:x=s
  .subst a
   rw[has_put_same c (by trivial)];simp
  .rw[has_put_other (by simpa using a),e x];simp[a]
 .rw[size_put o,e s,bn g,m,eX];rfl
theorem pz.len (h:pz w b i)(a:TypeId):(Builtin.len_ #[173] a #[.map (G b)]).run C w= .ok (.int .i64 (i.length:Int)) w:=by
 obtain⟨e,_,c,_,_,d⟩:=h;rw[c.len underlying173,d]
theorem Px (s:Bs)(c b:Nat)(a:List Bs)(w:M)(l:Bx w c #[.map (G b)])(d:pz w b a)(f:s.length<=24)(m:a.length<=300)(g:s∉a):
  Calls C 221 #[O ⟨s.toArray⟩,.pointer (G ⟨c,0,N⟩)] w λe w'=>e= .returned (.bool true)/\pz w' b (a++[s])/\w.grownBy w' (G b):=by
 have i:=d.s.look s f;rw[bn g] at i;obtain⟨n,o,j,k⟩:=d.put s f (by unfold maxLen;omega) g;have h:=hid (⟨j,k⟩:_/\_);go_enter func221,ntmps221
 go_wp2
 go_ret;exact⟨rfl,h.1,h.2⟩
attribute [local go_sem] Oper.semAt_some Oper.semAt_none wide_round
theorem Sc:∀args w,(callFunc 220 args).run C w= .ok (.enter 220 args) w:=enters_of func220 au rfl
def Qk (a:List Bs)(i:Nat)(args:Array Value)(_:M):Prop:=∃s,a[i]?=G s/\args=#[.int .i64 ((i+1:Nat):Int),O ⟨s.toArray⟩]
theorem Py {α:Type}{Y:M}{k:Nat}{enc:α->List Value}{a:Option Addr}{n c:Nat}{xs:List α}(h:Row X k enc a n c xs)(d:∀g,(Value.slice a n c).ownBlock=G g->Y.1[g]?=X.1[g]?):Row Y k enc a n c xs:=
 ⟨h.1,h.2.1,h.2.2.1,h.2.2.2.1,λi x e=>by
  obtain⟨b,o,rfl,f⟩:=h.2.2.2.2 i x e;exact⟨b,o,rfl,λj v l=>(H (a:=⟨b,o+i*k+j,N⟩) (d b rfl)).trans (f j v l)⟩⟩
theorem Ku {a:List Bs}{i:Nat}{s:Bs}(d:a.Nodup)(e:a[i]?=G s):s∉a.take i:=λf=>by
 obtain⟨j,b⟩:=List.getElem?_of_mem f;have c:j<i:=by have:=(bq.1 b).1;rw[dJ] at this;omega
 rw[List.getElem?_take_of_lt c] at b;obtain⟨g,h⟩:=bq.1 b;obtain⟨k,l⟩:=bq.1 e;exact List.pairwise_iff_getElem.1 d j i g k c (h.trans l.symm)
theorem Ev {n i:Nat}{z:Int}(a:z=((i+1:Nat):Int))(h:i<n):n - (RowKit.intOf (.int .i64 z)).toNat<n - (RowKit.intOf (.int .i64 (i:Int))).toNat:=by
 subst a;show n - (((i+1:Nat):Int)).toNat<n - ((i:Int)).toNat;rw[gF,gF];omega
structure Xq (L:List Bs)(a:Option Addr)(c sb m0 i:Nat)(X:M):Prop where
 m:pz X m0 (L.take i)
 x:Bx X (m0+1) #[.map (G m0)]
 s:Bx X sb #[.slice a L.length c]
 r:Row X 1 encStr a L.length c L
theorem EC (d:List Bs)(a:Option Addr)(c f:Nat)(D:Nat->Prop)(W:M)(hr:Row W 1 encStr a d.length c d)(Q:Bx W f #[.slice a d.length c])
  (ζ:∀i,i<W.1.size->((G i=(Value.slice a d.length c).ownBlock/\0<d.length)\/i=f)->D i) (η:D W.1.size) (θ:D (W.1.size+1)) (hL:d.length<=300) (hw:∀s∈d,s.length<=24) (hn:d.Nodup):
  Iter C 220 #[.pointer (G ⟨f,0,N⟩)] (Qk d) 2 D (V d.length) W:=by
 intro n l J Jx hJ ψ hY y;refine callsIn_of_wp func220 rfl trivial ?_ rfl;simp only[ntmps220,uR,iC,nk,Nat.reduceAdd,Nat.reduceSub,vF,vG,sD,sF,pO,jl];have q3:= @run_makeMap C;have F:=aB (aB (Below.refl W.1.size W) (.map #[] 0)) (.cells #[.map (G W.1.size)] 173);have hc:=(Q.keep F).1;have ω:Hid (Xq d a c f W.1.size 0 ((W.alloc (.map #[] 0)).alloc (.cells #[.map (G W.1.size)] 173))):=hid
  ⟨by rw[List.take_zero];exact(pz.new W).of_eq (Below.heap_alloc _ _ _ ak),by have:=Bx.new (W.alloc (.map #[] 0)) #[.map (G W.1.size)] 173;rw[World.size_alloc] at this;exact this,Q.keep F,hr.below F rfl⟩
 have ι:=hJ _ _ _ y (.of_below F (λi _ hi=>hi));have HR:=hid hr;have Γ:=hid ι;have HJ:=hid hJ;have HY:=hid hY;have z:=hid ζ;have R:=hid (⟨η,θ⟩:_/\_);have HL:=hid hL;have HW:=hid hw;have Δ:=hid hn;have Θ:=Q.2.2;clear hr Q hJ hY y F ι ζ η θ hL hw hn ψ
 gi_wp2
 gi_loopw [10] (λv wr=>∃i:Nat,v= .int .i64 i/\i<=d.length/\J (V i) wr/\Xq d a c f W.1.size i wr) (λv _=>d.length - (RowKit.intOf v).toNat)
 case atStart=>exact⟨0,rfl,aS _,Γ.q,ω.q⟩
 case round=>
  obtain⟨i,rfl,hi,S,A⟩:=hrel;by_cases T:i<d.length
  .obtain⟨s,b,o,hx,rfl,κ⟩:=A.r.at_ T
   have y:=κ 0 _ rfl;simp only[gP,bK] at y;have μ:=A.s.1;have ν:=A.x.1;have ξ:b<W.1.size:=by
    obtain⟨_,b',o',_,Ξ,Φ⟩:=HR.q.at_ T
    cases Ξ
    exact World.block_lt_of_cell? W _ (Φ 0 _ rfl)
   have ο:d.take i++[s]=d.take (i+1):=by rw[eD,hx];rfl
   have m:=hid A;have α:=hid S;have HX:=hid hx;have q:=hid ξ;have Ψ:=hid ο;have π:Hid (wrap64 ((i:Int)+1)=((i+1:Nat):Int)):=hid (by have:=HL.q;unfold wrap64;omega);have t:=hid Θ;clear A S hx κ hc ξ ο
   gi_wp2
   refine BD 99 [(0,0),(1,0),(2,0),(3,0),(4,0),(5,2),(6,0),(7,0),(8,0),(10,0),(11,0),(12,0),(13,0),(9,2),(14,2),(15,0),(16,0)] (λ_=>True) (λX=>X.cell? ⟨f,0,N⟩=G (.slice (G ⟨b,o,N⟩) d.length c)/\X.cell? ⟨b,o+i,N⟩=G (O ⟨s.toArray⟩)/\X.cell? ⟨W.1.size+1,0,N⟩=G (.map (G W.1.size))) au au (trivial) (⟨μ 0,y,ν 0⟩) ?_;refine qC ?_;refine FY rfl rfl (λK p=>?_);refine⟨λ_ _=>trivial,?_⟩;go_simp;refine⟨λh=>(by cases h),?_⟩;refine(callsIn_wide.2 (Px s (W.1.size+1) W.1.size (d.take i) wr.drew m.q.x (m.q.m.of_eq rfl) (HW.q s (bS HX.q)) (by rw[dJ];have:=HL.q;omega) (Ku Δ.q HX.q))).mono ?_;rintro e u ⟨rfl,β,P⟩;rw[Ψ.q] at β;have w:=hid (⟨P.cell (μ 0) (by have:=t.q;simp;omega),P.cell y (by have:=q.q;simp;omega),P.cell (ν 0) ak⟩:u.cell? ⟨f,0,N⟩=G (.slice (G ⟨b,o,N⟩) d.length c)/\u.cell? ⟨b,o+i,N⟩=G (O ⟨s.toArray⟩)/\u.cell? ⟨W.1.size+1,0,N⟩=G (.map (G W.1.size)));have ρ:=hid β;have j:=hid P;refine p _ _ ⟨trivial,w.q⟩ ?_;clear p K β P;refine qC ?_;refine FY rfl rfl (λK p=>?_);refine⟨λ_ _=>trivial,?_⟩;have σ:=ρ.q.len;have τ:(d.take (i+1)).length=i+1:=by rw[dJ];omega
   rw[τ] at σ;go_simp;refine p _ _ ⟨trivial,w.q⟩ ?_;clear p K σ τ;refine FY rfl rfl (λK p=>?_);have υ:=HJ.q _ _ _ α.q (⟨j.q.os,j.q.tape,j.q.output,j.q.size,λk x hl=>j.q.block k hl (by intro e;injection e with e;omega)⟩:Same (λi=>i<W.1.size\/W.1.size+2<=i) wr u);have γ:V i++[i]<+:V d.length:=by
    rw[<-List.range_succ];exact List.prefix_iff_eq_take.2 (by rw[List.length_range,List.take_range,wJ T])
   obtain⟨fn,q4,q5,q6,hy,hR⟩:=HY.q (V i) i #[.int .i64 ((i:Int)+1),O ⟨s.toArray⟩] u υ γ ⟨s,HX.q,by simp⟩ (by have:=m.q.x.2.2;have h2:=j.q.size;have h3:wr.drew.1.size=wr.1.size:=rfl;omega) (n - 1);have Ω:=hid γ;clear υ γ;refine⟨λ_ _=>trivial,?_⟩;go_simp;refine⟨λh=>(by cases h),?_⟩;refine hR.mono ?_;rintro e B (⟨rfl,φ,x⟩|⟨rfl,χ,x⟩)
   .skip
    have E:=hid x;have q0:=hid φ;clear hR hy;have r:=x.2;have Y:wr.1.size<=u.1.size:=j.q.size;have Z:=m.q.x.2.2;have δ:=hid (⟨(H (a:=⟨f,0,N⟩) (r f (z.q f t.q (.inr rfl)) (by have:=t.q;omega))).trans w.q.1,(H (a:=⟨b,o+i,N⟩) (r b (z.q b q.q (.inl ⟨rfl,by omega⟩)) (by have:=q.q;omega))).trans w.q.2.1,(H (a:=⟨W.1.size+1,0,N⟩) (r (W.1.size+1) R.q.2 ah)).trans w.q.2.2⟩:B.cell? ⟨f,0,N⟩=G (.slice (G ⟨b,o,N⟩) d.length c)/\B.cell? ⟨b,o+i,N⟩=G (O ⟨s.toArray⟩)/\B.cell? ⟨W.1.size+1,0,N⟩=G (.map (G W.1.size)));refine p _ _ ⟨trivial,δ.q⟩ ?_;clear p K x r Y Z φ;refine qC ?_;refine aH ?_
    gi_wp2
    go_roundw
    case rel=>
     have Y:wr.1.size<=u.1.size:=j.q.size;have Z:=m.q.x.2.2;refine⟨i+1,cZ (Value.int .i64) π.q,by omega,by rw[List.range_succ];exact q0.q,⟨ρ.q.of_eq (E.q.2 W.1.size R.q.1 ah),?_,?_,?_⟩⟩
     .exact((m.q.x.of_eq j.q.size (j.q.block _ m.q.x.2.2 ak)).of_eq E.q.1 (E.q.2 (W.1.size+1) R.q.2 ah))
     .exact((m.q.s.of_eq j.q.size (j.q.block _ m.q.s.2.2 (by have:=t.q;simp;omega))).of_eq E.q.1 (E.q.2 _ (z.q f t.q (.inr rfl)) (by have:=t.q;omega)))
     .exact Py m.q.r (λg hg=>by have ε:G b=G g:=hg;injection ε with ε;subst ε;exact(E.q.2 _ (z.q b q.q (.inl ⟨rfl,by omega⟩)) (by have:=q.q;omega)).trans (j.q.block _ (by have:=q.q;have:=m.q.x.2.2;show _<wr.1.size;omega) (by have:=q.q;simp;omega)))
    case measure=>exact Ev π.q T
   .skip
    clear hR hy;have r:=x.2;have Y:wr.1.size<=u.1.size:=j.q.size;have Z:=m.q.x.2.2;have δ:=hid (⟨(H (a:=⟨f,0,N⟩) (r f (z.q f t.q (.inr rfl)) (by have:=t.q;omega))).trans w.q.1,(H (a:=⟨b,o+i,N⟩) (r b (z.q b q.q (.inl ⟨rfl,by omega⟩)) (by have:=q.q;omega))).trans w.q.2.1,(H (a:=⟨W.1.size+1,0,N⟩) (r (W.1.size+1) R.q.2 ah)).trans w.q.2.2⟩:B.cell? ⟨f,0,N⟩=G (.slice (G ⟨b,o,N⟩) d.length c)/\B.cell? ⟨b,o+i,N⟩=G (O ⟨s.toArray⟩)/\B.cell? ⟨W.1.size+1,0,N⟩=G (.map (G W.1.size)));have q1:=hid χ;refine p _ _ ⟨trivial,δ.q⟩ ?_;clear p K x r Y Z χ;refine qC ?_;refine aH ?_
    gi_wp2
    refine bodyPost_ret (results_none rfl _ _ _) rfl ?_;exact⟨_,rfl,.inr ⟨V i++[i],Ω.q,q1.q⟩⟩
  .skip
   have q2:i=d.length:=by omega
   subst q2;have α:=hid S;clear A S hc
   gi_wp2
   go_end0
   exact⟨_,rfl,.inl α.q⟩
end Yd
namespace Yd
open Go Go.RowKit Go.Proofs Go.Maps Tryz
open Below renaming heap_setCell->C,refl->J
open Go.Value renaming slice->G
open World renaming size_alloc->H,setCell->I
attribute [local go_sem] Oper.semAt_some
theorem G9 (a:Option Addr)(n c:Nat)(w:World):Calls Tryz.prog 213 #[G a n c] w λe w'=>e= .returned (.func (.func 220) #[] #[.pointer (some ⟨w.1.size,0,none⟩)])/\w'=w.alloc (.cells #[G a n c] 22):=by
 go_enter func213,ntmps213
 go_wp2
 go_ret;exact⟨rfl,rfl⟩
theorem Pz {a:List Nat}{x n:Nat}(h:a++[x]<+:List.range n):x=a.length/\x<n:=by
 obtain⟨t,b⟩:=h;have c:(List.range n)[a.length]?=some x:=by rw[<-b];simp
 obtain⟨d,e⟩:=bq.1 c;rw[List.getElem_range] at e;rw[List.length_range] at d;omega
structure yM (L:List Bs):Prop where
 w:∀s∈L,bW ⟨s.toArray⟩=true
 n:L.Nodup
 l:L.length<=300
theorem Dc (d:List Bs)(a:Option Addr)(c:Nat)(w:World)(Q:Row w 1 encStr a d.length c d)(l:yM d)(hT:Lib.Utf8Tabs 7 8 w):
  Calls Tryz.prog 196 #[.agg #[G a d.length c]] w (bT (.int .i64 0) w):=by
 apply(callsIn_wide (n:=3)).1
 refine callsIn_of_wp_marks func196 rfl trivial ?_ rfl;simp only[ntmps196,uR,iC,nk,Nat.reduceAdd,Nat.reduceSub,vF,vG,sD,sF,pO,jl]
 apply wpIn_wide.2
 go_wp2
 go_step3
 go_wp2
 go_step3
 go_wp2_with (go_at_call 213;refine(G9 _ _ _ _).mono ?_;rintro e w' ⟨rfl,rfl⟩)
 obtain⟨q,r⟩:=kP (((w.alloc (.cells #[G a d.length c] 85)).alloc (.cells #[.int .i64 0] 3)).alloc (.cells #[G a d.length c] 22));rw[show w.1.size+1+1=w.1.size+2 from rfl,<-r];have π:q.1.size=w.1.size+3:=by rw[r];simp
 have R:Below w.1.size w q:=by rw[r];exact aB (aB (aB (J _ _) _) _) _
 have δ:Bx q w.1.size #[G a d.length c]:=by rw[r];exact((Bx.new w _ _).alloc _).alloc _
 have ε:Bx q (w.1.size+1) #[.int .i64 0]:=by
  rw[r];have:=(Bx.new (w.alloc (.cells #[G a d.length c] 85)) #[.int .i64 0] 3).alloc (.cells #[G a d.length c] 22);rw[H] at this;exact this
 have ζ:Bx q (w.1.size+2) #[G a d.length c]:=by
  rw[r];have:=Bx.new ((w.alloc (.cells #[G a d.length c] 85)).alloc (.cells #[.int .i64 0] 3)) #[G a d.length c] 22;rw[H,H] at this;exact this
 have η:∀i,some i=(Value.slice a d.length c).ownBlock->0<d.length->i<w.1.size:=λi f u=>by
  obtain⟨_,b,o,_,rfl,S⟩:=Q.at_ u;have t:some i=some b:=f
  cases t
  exact World.block_lt_of_cell? w _ (S 0 _ rfl)
 refine wpIn_wide.1 (DX (n:=3) (gf:=220) (lb:=#[.pointer (some ⟨w.1.size+2,0,none⟩)]) (by simp[go_sem]) Sc
  (lN:=Qk d) (k:=2) (D:=λi=>i<w.1.size\/i=w.1.size\/i=w.1.size+2\/i=w.1.size+5\/i=w.1.size+6) (xs:=List.range d.length)
  (λW T ρ=>EC d a c (w.1.size+2) _ W ((Q.below R rfl).below T rfl) (ζ.keep T) (λi f y=>by
   rcases y with y|rfl
   .exact .inl (η i y.1 y.2)
   .exact .inr (.inr (.inl rfl))) (.inr (.inr (.inr (.inl ah)))) (.inr (.inr (.inr (.inr ah)))) l.l (λs E=>zU (l.w s E)) l.n) ah
  (λx θ X hx=>by obtain⟨_,_,rfl⟩:=hx;rfl)
  (λg X=>Below w.1.size w X/\Bx X w.1.size #[G a d.length c]/\Bx X (w.1.size+1) #[.int .i64 g.length])
  (λc g X=>False)
  (λg X Y j k=>⟨k.below j.1 (λi f=> .inl ah) j.1.size,k.bx j.2.1 (.inl ah),k.bx j.2.2 (.inl ah)⟩)
  (λc g X Y j k=>j.elim)
  ⟨R,δ,ε⟩ ?round ?done ?stop)
 case stop=>
  rintro c g X Z j α;exact j.elim
 case done=>
  rintro X ⟨v,u,t⟩ α;rw[List.length_range] at t;have S:=u.1;have σ:=t.1;have τ:decide ((d.length:Int)>300)=false:=bn (by have:=l.l;omega);have υ:decide (300<(d.length:Int))=false:=bn (by have:=l.l;omega);have φ:decide (300<d.length)=false:=bn (by have:=l.l;omega);have χ:((d.length:Int)!=(d.length:Int))=false:=by simp
  simp only[Exit.inBlock,Exit.then]
  go_wp2
  refine⟨by simp,.inl ⟨_,_,rfl,run_takeDeferred α,?_⟩⟩;refine⟨_,results_tmp rfl _ _ _,?_,(Same.putObj (A:=λi=>i<w.1.size) X _ ah).below v (λi f=>f) v.size⟩
  rfl
 case round=>
  rintro g x θ X ⟨v,u,t⟩ Z ⟨s,E,rfl⟩ ψ m;obtain⟨ω,Γ⟩:=Pz Z
  gi_wp2
  refine⟨J _ _,λF z=>?_⟩;have β:Below w.1.size w F:=z.below v (λi f=>by omega) v.size;have ι:=z.bx u ah;have κ:=z.bx t ah;have μ:=l.w s (bS E);have γ:=hid (Gy s F (Utf8Tabs_below hT β));rw[aA μ] at γ;have HB:=hid β;have H0:=hid ι;have H1:=hid κ;have HK:=hid z
  gi_wp2
  refine⟨trivial,λh=>(by cases h),?_⟩
  apply(CallsIn.inRound _ (callsIn_wide.2 γ)).mono
  rintro e W3 ⟨rfl,B⟩;have ν:=hid (HB.trans (B.mono HB.size));have ξ:=hid (H0.keep B);have K:=hid (H1.keep B);have P:=hid B;have Δ:=K.1;have Θ:=K.2.1;have HZ:=hid (show q.1.size+3<=F.1.size by have:=HK.q.size;omega)
  gi_wp2
  have ο:(((g++[x]).length:Nat):Int)=(g.length:Int)+1:=by rw[eX];rfl
  refine⟨⟨(C _ _ _ _ (by simp;omega)).trans (P.block _ (by have:=HZ.q;omega)),(C _ _ _ _ (by simp;omega)).trans (P.block _ (by have:=HZ.q;omega))⟩,
   (bM.of_below P (λi _ f=>f)).trans ⟨by simp[I],λi f _=>C _ _ _ _ (by simp;omega)⟩,ν.setCell (p:=⟨w.1.size+1,0,none⟩) ak _,ξ.of_eq (by simp[I]) (C _ _ _ _ ak),?_⟩
  rw[ο];exact K.set1 _
end Yd
namespace Yd
open Go Go.RowKit Go.Proofs Go.Maps Tryz
open Go renaming bodyPost_ret->I,World->L
open Go.Obj renaming cells->G
open Go.Value renaming slice->D,int->H,string->J
open Yd renaming hid->C
def Af (a:List Bs)(s:Bs):Int:=if s∈a then(a.idxOf s:Int) else -1
theorem M5 (d:List Bs)(a:Option Addr)(c:Nat)(s:Bs)(w:L)(h:Row w 1 encStr a d.length c d):
  Calls Tryz.prog 214 #[D a d.length c,J ⟨s.toArray⟩] w (bT (H .i64 (Af d s)) w):=by
 have Q:=h.le;have y:=C h;obtain⟨R,j⟩:=kP (Af d s);rw[<-j];have n:=C j;clear h j;go_enter func214,ntmps214
 go_wp2
 go_loopw [8] (λv wr=>∃i:Nat,v= H .i64 i/\i<=d.length/\s∉d.take i/\wr=w) (λv _=>d.length - (RowKit.intOf v).toNat)
 case atStart=>exact⟨0,rfl,aS _,by simp,rfl⟩
 case round=>
  obtain⟨i,rfl,S,f,rfl⟩:=hrel;by_cases p:i<d.length
  .obtain⟨x,b,o,q,rfl,r⟩:=y.at_ p
   have A:=r 0 _ rfl;simp only[gP,bK] at A;have t:=C f;have k:=C q;have T:Hid (wrap64 ((i:Int)+1)=((i+1:Nat):Int)):=C (by unfold wrap64;omega);by_cases l:x=s
   .subst l
    have m:R=(i:Int):=by
     rw[n.q];unfold Af;rw[aA (bS k.q)];have B:=bq.1 k;have u:d=d.take i++x::d.drop (i+1):=by
      obtain⟨u,g⟩:=B;rw[<-g,List.getElem_cons_drop,Cj]
     have g:(d.take i++x::d.drop (i+1)).idxOf x=i:=by
      rw[List.idxOf_append,ay t.q];simp[dJ];omega
     rw[<-u] at g;rw[g]
    subst m;clear q f r
    go_wp2
    go_ret;exact⟨rfl,Below.refl _ _⟩
   .have W:(s==x)=false:=aN.2 (Ne.symm l)
    have E:=C l;have F:s∉d.take (i+1):=by
     rw[eD,k.q];intro e;rcases cu.1 e with e|e
     .exact t e
     .have:s=x:=by simpa using e
      exact E this.symm
    have K:=C F
    go_wp2
    go_roundw
    case rel=>exact⟨i+1,by simp,by omega,K,trivial⟩
    case measure=>exact Ev (z:=(i:Int)+1) ak p
  .have P:i=d.length:=by omega
   subst P;have m:R= -1:=by
    rw[n.q];unfold Af;rw[ay (by rw[List.take_length] at f;exact f)]
   subst m
   go_wp2
   go_ret;exact⟨rfl,Below.refl _ _⟩
theorem Kv (b:List Bs)(a:Option Addr)(c:Nat)(s:Bs)(w:L)(g:Row w 1 encStr a b.length c b)(i:yM b)(j:Lib.Utf8Tabs 7 8 w):
  Calls Tryz.prog 197 #[.agg #[D a b.length c],J ⟨s.toArray⟩] w (bT (.tuple #[H .i64 (if s∈b then(b.idxOf s:Int) else 0),.bool (decide (s∈b))]) w):=by
 have l:=aB (Below.refl w.1.size w) (G #[D a b.length c] 85);have z:=C (M5 b a c s _ (g.below l rfl));have Q:=C g;have R:=C j;have S:=C i;have r:=C l;have E:=C (Bx.new w #[D a b.length c] 85);have F:=C (λW (t:Below w.1.size w W)=>Dc b a c W (g.below t rfl) i (Utf8Tabs_below j t));obtain⟨A,m⟩:=kP ((if s∈b then(b.idxOf s:Int) else 0):Int);obtain⟨B,n⟩:=kP (decide (s∈b):Bool);rw[<-m,<-n];have u:=C m;have x:=C n;clear l g j i m n;go_enter func197,ntmps197;go_wp2_with fail;refine z.q.mono ?_;rintro e T ⟨rfl,y⟩;have h:=C (r.trans (y.mono r.size));have X:=E.keep y;by_cases d:s∈b
 .obtain⟨k,o⟩:=kP (b.idxOf s)
  have f:Af b s=(k:Int):=by unfold Af;rw[aA d,o]
  have p:A=(k:Int):=by rw[u.q,aA d,o]
  have q:B=true:=by rw[x.q,bG d]
  subst p q;rw[f];have Y:decide ((k:Int)<0)=false:=bn ah;clear f d o;go_wp2_with fail;refine(F.q _ h.q).mono ?_;rintro e Z ⟨rfl,K⟩;have P:=C (h.trans (K.mono h.size))
  go_wp2
  apply I (v:= .tuple #[H .i64 (k:Int),.bool true]) (by simp[results,results197,go_sem]) rfl
  exact⟨rfl,P⟩
 .have f:Af b s= -1:=by unfold Af;rw[ay d]
  have p:A=0:=by rw[u.q,ay d]
  have q:B=false:=by rw[x.q,bn d]
  subst p q;rw[f];clear f d
  go_wp2
  apply I (v:= .tuple #[H .i64 0,.bool false]) (by simp[results,results197,go_sem]) rfl
  exact⟨rfl,h⟩
theorem Row.st1 (w:L)(s:Bs):Row (w.alloc (G #[J ⟨s.toArray⟩] 9)) 1 encStr (some ⟨w.1.size,0,none⟩) 1 1 [s]:=
 (Own.new (hc:=gy) w w.1.size 9 #[J ⟨s.toArray⟩] [s] (aC _) rfl (by simp[maxLen])).row ak
def Vx (a:List Bs)(s:Bs)(w:L)(e:Ending)(w':L):Prop:=
 Below w.1.size w w'/\if s∈a\/a.length<300 then ∃b c,e= .returned (.tuple #[.agg #[D b (bV a s).length c],H .i64 (lQ a s:Int),H .i64 0])/\Own w' w.1.size 9 1 encStr (D b (bV a s).length c) (bV a s)
  else e= .returned (.tuple #[.agg #[D none 0 0],H .i64 0,H .i64 6])
theorem KX (b:List Bs)(a:Option Addr)(c:Nat)(s:Bs)(w:L)(X:Row w 1 encStr a b.length c b)(x:yM b)(hs:bW ⟨s.toArray⟩=true)(Y:Lib.Utf8Tabs 7 8 w):
  Calls Tryz.prog 165 #[.agg #[D a b.length c],J ⟨s.toArray⟩] w (Vx b s w):=by
 obtain⟨i,z,hi,hz,ο,π,ρ⟩:=mQ;have n:=C (⟨hi,hz,ο,π,ρ⟩:_/\_/\_/\_/\_);have HF:=C (λW (d:Below w.1.size w W)=>Dc b a c W (X.below d rfl) x (Utf8Tabs_below Y d));have HN:=C (λW (d:Below w.1.size w W)=>Kv b a c s W (X.below d rfl) x (Utf8Tabs_below Y d));have HC:=C (λW (d:Below w.1.size w W)=>(by have:=Gy s W (Utf8Tabs_below Y d);rw[aA hs] at this;exact this:Calls Tryz.prog 63 #[J ⟨s.toArray⟩] W (bT (H .i64 0) W)));have HK:=C (λW (d:Below w.1.size w W)=>vB a c b W (X.below d rfl) (by have:=x.l;omega));have Z:=C (aB (aB (Below.refl w.1.size w) (G #[D a b.length c] 85)) (G #[D none 0 0] 85));have ι:Hid (Bx ((w.alloc (G #[D a b.length c] 85)).alloc (G #[D none 0 0] 85)) w.1.size #[D a b.length c]/\Bx ((w.alloc (G #[D a b.length c] 85)).alloc (G #[D none 0 0] 85)) (w.1.size+1) #[D none 0 0]):=C
  ⟨(Bx.new w _ _).alloc _,by have:=Bx.new (w.alloc (G #[D a b.length c] 85)) #[D none 0 0] 85;rw[World.size_alloc] at this;exact this⟩
 have α:=C x.l;go_enter func165,ntmps165;go_wp2_with fail;refine(HF.q _ Z.q).mono ?_;rintro e w1 ⟨rfl,β⟩;have γ:=C (Z.trans (β.mono Z.size));have κ:=C (⟨ι.1.keep β,ι.2.keep β⟩:_/\_);go_wp2_with fail;refine(HC.q _ γ.q).mono ?_;rintro e w2 ⟨rfl,δ⟩;have f:=C (γ.trans (δ.mono γ.size));have y:=C (⟨κ.1.keep δ,κ.2.keep δ⟩:_/\_);have σ:=y.q.1.1;go_wp2_with fail;refine(HK.q _ f.q).mono ?_;rintro e w3 ⟨A,B,rfl,τ,E⟩;have υ:=C τ;have ε:=C y.2.2.2;have φ:=C E.size;have ζ:=C (f.trans (E.mono f.size));have η:=C (⟨y.1.keep E,y.2.keep E⟩:_/\_);have σ:=η.q.1.1;go_wp2_with fail;refine(HN.q _ ζ.q).mono ?_;rintro e F ⟨rfl,o⟩;have χ:=C o.size;have K:=C (ζ.trans (o.mono ζ.size));have m:=C (⟨η.1.keep o,η.2.keep o⟩:_/\_);have q:=C (υ.below o rfl);have Ω:=C (show w.1.size+1<F.1.size from m.2.2.2);have q0:=m.2.1;have q1:=m.2.2.1;by_cases j:s∈b
 .obtain⟨k,hk⟩:=kP (b.idxOf s)
  have P:=C (⟨j,hk⟩:_/\_);have Q:(if s∈b then(b.idxOf s:Int) else 0)=(k:Int):=by rw[aA j,hk]
  have R:decide (s∈b)=true:=bG j;rw[Q,R];clear Q R j hk
  go_wp2
  have r:=m.2.set1 (D A b.length B);have t:=r.1 0
  apply I (v:= .tuple #[.agg #[D A b.length B],H .i64 (k:Int),H .i64 0]) (by simp[results,results165,go_sem,t]) rfl
  refine⟨K.setCell (p:=⟨w.1.size+1,0,none⟩) ak _,?_⟩;rw[aA (.inl P.q.1),mq P.q.1,KM P.q.1,<-P.q.2];exact⟨A,B,rfl,(q.block (λg u=>Below.heap_setCell _ _ _ _ (by have:=(q.lt g u).1;have:=ε.q;simp;omega))).mono f.size⟩
 .have Q:(if s∈b then(b.idxOf s:Int) else 0)=0:=by rw[ay j]
  have R:decide (s∈b)=false:=bn j;rw[Q,R];have HM:=C j;by_cases l:b.length=300
  .have hq:((b.length:Int)==300)=true:=by rw[l];rfl
   have ψ:(b.length==300)=true:=by rw[l];rfl
   have ω:decide (b.length=300)=true:=bG l;have Γ:decide ((b.length:Int)=300)=true:=bG ah;have H3:=C l
   go_wp2
   have r:=m.q.2.set1 (D none 0 0);have t:=r.1 0;refine I (v:= .tuple #[.agg #[D none 0 0],H .i64 0,H .i64 6]) (by simp[results,results165,go_sem,t]) rfl ?_;refine⟨K.q.setCell (p:=⟨w.1.size+1,0,none⟩) ak _,?_⟩;rw[ay (by have:=H3.q;rintro(h|h);exact HM.q h;omega)]
  .have hq:((b.length:Int)==300)=false:=aN.2 ah
   have ψ:(b.length==300)=false:=aN.2 l;have ω:decide (b.length=300)=false:=bn l;have Γ:decide ((b.length:Int)=300)=false:=bn ah;have H3:=C l;have Δ:Hid ((Value.slice A b.length B).ownBlock≠some (w.1.size+1)):=C (λe=>by have:=(q.q.lt _ e).1;have:=ε.q;omega);have Θ:Hid ((b.length+1)*16<=140737488355328):=C (by have:=α.q;omega);have Ξ:Hid (b.length+1<=maxLen):=C (by have:=α.q;unfold maxLen;omega);have μ:Hid (w2.1.size<=(F.alloc (G #[J ⟨s.toArray⟩] 9)).1.size):=C (by have h1:=φ.q;have h2:=χ.q;simp;omega)
   go_wp2_with (at_builtin;refine dx rfl _ _ 22 rfl i z 16 underlying22 n.1 n.2.1 n.2.2.1 n.2.2.2.1 n.2.2.2.2 rfl (q.alloc _) (some ⟨F.1.size,0,none⟩) 1 1 (b.length+1) [s] rfl (Row.st1 F s) rfl Θ Ξ μ ?_;intro S T w6 ν ξ q2;have θ:=(m.2.alloc (G #[J ⟨s.toArray⟩] 9)).grown ξ Δ;have q3:=θ.1;have q4:=θ.2.1)
   have Φ:Hid (∀g,(Value.slice S (b.length+1) T).ownBlock=some g->g≠w.1.size+1):=C (λg u e=>by
    have:=(ν.lt g u).1;have:=ε.q;omega)
   have Ψ:=below_app (K.alloc K.size _) (q.alloc _) f.size (cO f.size μ) ξ;have r:=θ.set1 (D S (b.length+1) T);have t:=r.1 0
   apply I (v:= .tuple #[.agg #[D S (b.length+1) T],H .i64 (b.length:Int),H .i64 0]) (by simp[results,results165,go_sem,t]) rfl
   refine⟨Ψ.setCell (p:=⟨w.1.size+1,0,none⟩) ak _,?_⟩;rw[aA (.inr (by have:=H3.q;have:=α.q;omega)),Hy HM.q,kF HM.q,eX];exact⟨S,T,rfl,(ν.block (λg u=>Below.heap_setCell _ _ _ _ (by have:=Φ.q g u;simp;omega))).mono f.size⟩
end Yd
namespace Yd
open Go Go.RowKit Go.Proofs Tryz
def kz:List PanicEntry:=[⟨.iface 27 (.int .i64 6),false,false⟩]
theorem oh (b:Bool)(w:World):Calls Tryz.prog 120 #[.bool b] w λe w'=>w'=w/\e=if b=true then .returned (.tuple #[]) else .panicked kz:=by
 cases b
 .go_enter func120,ntmps120
  go_wp2
  exact⟨rfl,rfl,rfl⟩
 .go_enter func120,ntmps120
  go_wp2
  apply bodyPost_end (results_none rfl _ _ _) rfl
  exact⟨rfl,rfl⟩
end Yd
