import Derived.Test.YtiheclemhihpeaaGreatDoorZTell3
import Derived.Laws.Externs
set_option linter.all false
set_option maxRecDepth 200000
set_option maxHeartbeats 8000000
namespace Yd
open Bool renaming false->C
open Option renaming none->J
open Go Go.RowKit Go.Proofs Tryz
open Below renaming refl->G
open Go.IntKind renaming i64->N
open Go.Obj renaming cells->I
open Go.Proofs renaming Utf8Tabs_below->U
open Go.Value renaming string->H,int->M,bool->V
open Tryz renaming prog->L
open Yd renaming hid->D
open _root_ renaming trivial->O
theorem abv{p:Prop}(h:p:=by decide):p:=h
theorem abw{p:Prop}(h:p:=by simp[results,results42,go_sem,i]):p:=h
theorem abx{p:Prop}(h:p:=by have:=a.q;omega):p:=h
theorem aby{p:Prop}(h:p:=by have:=a.q;show _<=b;omega):p:=h
theorem Q9 (i:Nat)(a:i<=9)(W:World):(callFunc 195 #[.int .u64 0,.int .u64 (i:Int),.int .u64 0]).run L W= .ok (.value (.tuple #[.int .u64 (i:Int),.int .u64 0])) W:=by
 rw[run_callFunc_extern (e:=add64Entry) func195 au au au au,run_add64 0 i 0 ah ah ah ah];rw[show(0+(i:Int)+0) % 18446744073709551616=(i:Int) by omega,show(0+(i:Int)+0) / 18446744073709551616=0 by omega];rfl
theorem Ra (i:Nat)(a:i<=9)(w:World):Calls L 161 #[.agg #[.int .u64 0,V C,V C],.int .i32 ((48+i:Nat):Int)] w (bT (.agg #[.int .u64 i,V C,V C]) w):=by
 have b:=λW=>D (Tryz.bits_Mul64 0 10 aj aj W)
 have d:=D (aB (aB (G w.1.size w) (I #[.int .u64 0,V C,V C] 222)) (I #[.int .u64 0,V C,V C] 222));have c:=λW=>Q9 i a W
 have f:=D ((Bx.new w #[.int .u64 0,V C,V C] 222).alloc (I #[.int .u64 0,V C,V C] 222));rcases (by omega:i=0\/i=1\/i=2\/i=3\/i=4\/i=5\/i=6\/i=7\/i=8\/i=9) with rfl|rfl|rfl|rfl|rfl|rfl|rfl|rfl|rfl|rfl
 all_goals
  simp only[Int.cast_ofNat_Int] at c;go_enter func161,ntmps161;go_wp2_with fail;refine(b _).q.mono ?_;rintro e g ⟨rfl,rfl⟩;go_wp2_with fail;refine bodyPost_ret (v:=_) ?_ rfl ⟨rfl,aB (aB (G _ _) _) _⟩;simp[results,results161,go_sem]
theorem Lv (i:Nat)(a:i<=9)(w:World):Calls L 162 #[.agg #[.int .u64 i,V C,V C]] w (nE (M N i) (V true) w):=by
 rcases (by omega:i=0\/i=1\/i=2\/i=3\/i=4\/i=5\/i=6\/i=7\/i=8\/i=9) with rfl|rfl|rfl|rfl|rfl|rfl|rfl|rfl|rfl|rfl
 all_goals
  go_enter func162,ntmps162;go_wp2_with fail
  go_ret2
  exact⟨rfl,aB (G _ _) _⟩
theorem Ou (b:UInt8)(h:fE b=true)(a:b≠45):jN [b]=[b]:=by
 unfold jN;rw[ay (by simp[a])];simp[h]
theorem Rb (b:UInt8)(f:48<=b.toNat)(s:b.toNat<=57)(w:World):Calls L 110 #[H ⟨#[b]⟩] w (nE (M N ((b.toNat - 48:Nat):Int)) (M N 0) w):=by
 obtain⟨i,t⟩:∃i,i=b.toNat - 48:=⟨_,rfl⟩;rw[<-t];have u:48+i=b.toNat:=by omega
 have x:=λW=>D (Im [b] ak W)
 rw[Ou b (by rw[Bw];simp[f,s]) (λe=>by rw[e] at f;exact absurd f aj)] at x;have y:=λW=>D (Ra i ah W)
 have S:=λW=>D (Lv i ah W)
 rw[u] at y;have ν:∀W,(Instr.index 9 (H ⟨#[b]⟩) (M N 0)).run L W= .ok (.int .u8 (b.toNat:Int)) W:=λW=>dQ Tryz.underlying9 [b] 0 b rfl W
 have ξ:((b.toNat:Int)==45)=C:=aN.2 ah;have ο:(([b]:Bs)==([]:Bs))=C:=rfl;have T:=D (nM b [] ah);clear f s t u
 cases h0:((b.toNat:Int)==48)
 all_goals
  go_enter func110,ntmps110;go_wp2_with fail;refine(x _).q.mono ?_;rintro e a ⟨rfl,g⟩;have X:=D ((aB g (I #[.int .u64 0,V C,V C] 222)).trans (iN _ ⟨#[b]⟩|>.mono (by have:=g.size;simp;omega)));have Z:=D (((Bx.new a #[.int .u64 0,V C,V C] 222)).keep (iN _ ⟨#[b]⟩));have z:Hid (w.1.size<=a.1.size):=D g.size;clear g;go_wp2_with fail
  go_loopw [] (λwr=>∃(W:World)(k v:Nat),W=wr/\((k=0/\v=0)\/(k=1/\v=i))/\wr.1[a.1.size+1]?=some (.stringIter ⟨#[b]⟩ k)/\Bx wr a.1.size #[.int .u64 v,V C,V C]/\Below w.1.size w wr) (λwr=>2 - wr.iterPos (a.1.size+1))
  case atStart=>exact⟨_,0,0,rfl,.inl ⟨rfl,rfl⟩,(by have:=World.iter_heap (a.alloc (I #[.int .u64 0,V C,V C] 222)) ⟨#[b]⟩ 0;rwa[World.size_alloc] at this),Z.q,X.q⟩
  case round=>
   obtain⟨W,k,v,rfl,α,d,l,A⟩:=hrel;have β:=D d;have γ:=D l;have o:=D A;have δ:=l.1;have ε:=l.2.1;clear l A;rcases α with⟨rfl,rfl⟩|⟨rfl,rfl⟩
   .have ζ:∀c,(Instr.next (.pointer (some ⟨a.1.size+1,0,J⟩)) true c).run L W= .ok (.tuple #[V true,M N 0,.int .i32 (b.toNat:Int)]) (W.iterAt (a.1.size+1) ⟨#[b]⟩ 1):=λc=>by
     have h:=Lib.run_next_any_at (P:=L) W (a.1.size+1) ⟨#[b]⟩ 0 c d (by simp[ByteArray.size]);rw[show Utf8.decode ⟨#[b]⟩ 0=(b.toNat,1) from T.q] at h;exact h
    have B:=D (Lib.iterAt_heap W (a.1.size+1) ⟨#[b]⟩ 0 1 d);have E:=D (Lib.below_iterAt o.q (k:=a.1.size+1) (by have:=z.q;omega) ⟨#[b]⟩ 1);clear d;have p:=γ.q.of_eq (Y:=W.iterAt (a.1.size+1) ⟨#[b]⟩ 1) (by rw[Lib.iterAt_size];exact aC _) (Lib.iterAt_other W _ _ _ _ ah);have η:=p.1;have θ:=D p;clear p δ ε;go_wp2_with fail;refine(y _).q.mono ?_;rintro e q ⟨rfl,m⟩;have F:=D (E.q.bL m);have n:=θ.q.keep m;have ι:=D n;have π:=n.1;have ρ:=n.2.1;have K:=D ((m.block (a.1.size+1) (fH.1 B.q).1).trans B.q);clear m n η;go_wp2_with fail;have r:Same (λj=>j≠a.1.size) q (((q.setCell ⟨a.1.size,0,J⟩ (.int .u64 i)).setCell ⟨a.1.size,1,J⟩ (V C)).setCell ⟨a.1.size,2,J⟩ (V C)):=(((Same.refl' q).setTail (λh=>h rfl)).setTail (λh=>h rfl)).setTail (λh=>h rfl);have Q:=D ((r.block (a.1.size+1) ah (fH.1 K.q).1).trans K.q);have κ:=D (r.below F.q (λj hj=>by have:=z.q;omega) F.q.size);clear r;go_roundw
    case rel=>exact⟨_,1,i,rfl,.inr ⟨rfl,rfl⟩,Q.q,((ι.q.aX 0 ak (.int .u64 i)).aX 1 ak (V C)).aX 2 ak (V C),κ.q⟩
    case measure=>rw[iterPos_of Q.q,iterPos_of β.q];omega
   .have ζ:∀c,(Instr.next (.pointer (some ⟨a.1.size+1,0,J⟩)) true c).run L W=_:=λc=>Lib.run_next_end_at W (a.1.size+1) ⟨#[b]⟩ 1 c d (by simp[ByteArray.size])
    clear d;go_wp2_with fail;refine(S _).q.mono ?_;rintro e w3 ⟨rfl,R⟩;have μ:=D (o.q.bL R);clear R;go_wp2_with fail
    go_ret2
    exact⟨rfl,μ.q⟩
def qN (x:Bool)(w:World)(e:Ending)(w':World):Prop:=∃(k a:Int)(t:Bs)(c:Nat)(b:Int),EO k a t c b w e w'/\((b==0 && k==1)=x)
theorem Ug (w:World)(d:Lib.Utf8Tabs 7 8 w):Calls L 42 #[H ⟨[32].toArray⟩,M N 0] w (qN C w):=by
 have k:ByteArray.extract ⟨#[32]⟩ 0 1=⟨#[32]⟩:=mV [32] 1;have f:=λW (g:Below w.1.size w W)=>D (oU [32] 0 [32] rfl ak ak W (U d g))
 have b:Hid (mg [32]=1/\rR [32]=true):=D ⟨abv,abv⟩;go_enter Tryz.func42,Tryz.ntmps42;go_wp2_with fail;refine(f _ (aB (G _ _) _)).q.mono ?_;rintro e l ⟨rfl,a⟩;have h:=D ((aB (G w.1.size w) (I (aF 0 0 [] C) 79)).trans (a.mono ak));have c:=D ((Bx.new w (aF 0 0 [] C) 79).keep a);clear a;rw[b.q.1,b.q.2];have i:=(c.q.alloc (I (aF 0 1 [] C) 79)).1;have m:=(c.q.alloc (I (aF 0 1 [] C) 79)).2.1;have j:=D (aB h.q (I (aF 0 1 [] C) 79));go_wp2_with fail;refine bodyPost_ret (v:= .tuple #[.agg (aF 5 1 [] C),M N 1,M N 0]) abw rfl ⟨5,1,[],1,0,⟨C,rfl,?_⟩,abv⟩;exact lY j.q
theorem Wp (w:World)(d:Lib.Utf8Tabs 7 8 w):Calls L 42 #[H ⟨[9].toArray⟩,M N 0] w (qN C w):=by
 have k:ByteArray.extract ⟨#[9]⟩ 0 1=⟨#[9]⟩:=mV [9] 1;have f:=λW (g:Below w.1.size w W)=>D (oU [9] 0 [9] rfl ak ak W (U d g))
 have b:Hid (mg [9]=1/\rR [9]=true):=D ⟨abv,abv⟩;go_enter Tryz.func42,Tryz.ntmps42;go_wp2_with fail;refine(f _ (aB (G _ _) _)).q.mono ?_;rintro e l ⟨rfl,a⟩;have h:=D ((aB (G w.1.size w) (I (aF 0 0 [] C) 79)).trans (a.mono ak));have c:=D ((Bx.new w (aF 0 0 [] C) 79).keep a);clear a;rw[b.q.1,b.q.2];have i:=(c.q.alloc (I (aF 0 1 [] C) 79)).1;have m:=(c.q.alloc (I (aF 0 1 [] C) 79)).2.1;have j:=D (aB h.q (I (aF 0 1 [] C) 79));go_wp2_with fail;refine bodyPost_ret (v:= .tuple #[.agg (aF 5 1 [] C),M N 1,M N 0]) abw rfl ⟨5,1,[],1,0,⟨C,rfl,?_⟩,abv⟩;exact lY j.q
theorem Uh (w:World)(d:Lib.Utf8Tabs 7 8 w):Calls L 42 #[H ⟨[35].toArray⟩,M N 0] w (qN C w):=by
 have k:ByteArray.extract ⟨#[35]⟩ 0 1=⟨#[35]⟩:=mV [35] 1;have f:=λW (g:Below w.1.size w W)=>D (oU [35] 0 [35] rfl ak ak W (U d g))
 have b:Hid (mg [35]=1/\rR [35]=true):=D ⟨abv,abv⟩;go_enter Tryz.func42,Tryz.ntmps42;go_wp2_with fail;refine(f _ (aB (G _ _) _)).q.mono ?_;rintro e l ⟨rfl,a⟩;have h:=D ((aB (G w.1.size w) (I (aF 0 0 [] C) 79)).trans (a.mono ak));have c:=D ((Bx.new w (aF 0 0 [] C) 79).keep a);clear a;rw[b.q.1,b.q.2];have i:=(c.q.alloc (I (aF 0 1 [] C) 79)).1;have m:=(c.q.alloc (I (aF 0 1 [] C) 79)).2.1;have j:=D (aB h.q (I (aF 0 1 [] C) 79));go_wp2_with fail;refine bodyPost_ret (v:= .tuple #[.agg (aF 5 1 [] C),M N 1,M N 0]) abw rfl ⟨5,1,[],1,0,⟨C,rfl,?_⟩,abv⟩;exact lY j.q
theorem Ui (w:World)(d:Lib.Utf8Tabs 7 8 w):Calls L 42 #[H ⟨[10].toArray⟩,M N 0] w (qN C w):=by
 have k:ByteArray.extract ⟨#[10]⟩ 0 1=⟨#[10]⟩:=mV [10] 1;have f:=λW (g:Below w.1.size w W)=>D (oU [10] 0 [10] rfl ak ak W (U d g))
 have b:Hid (mg [10]=0/\rR [10]=true):=D ⟨abv,abv⟩;go_enter Tryz.func42,Tryz.ntmps42;go_wp2_with fail;refine(f _ (aB (G _ _) _)).q.mono ?_;rintro e l ⟨rfl,a⟩;have h:=D ((aB (G w.1.size w) (I (aF 0 0 [] C) 79)).trans (a.mono ak));have c:=D ((Bx.new w (aF 0 0 [] C) 79).keep a);clear a;rw[b.q.1,b.q.2];have i:=(c.q.alloc (I (aF 0 0 [] C) 79)).1;have m:=(c.q.alloc (I (aF 0 0 [] C) 79)).2.1;have j:=D (aB h.q (I (aF 0 0 [] C) 79));go_wp2_with fail;refine bodyPost_ret (v:= .tuple #[.agg (aF 4 0 [10] C),M N 1,M N 0]) abw rfl ⟨4,0,[10],1,0,⟨C,rfl,?_⟩,abv⟩;exact lY j.q
theorem Uj (w:World)(r:Lib.Utf8Tabs 7 8 w):Calls L 42 #[H ⟨[46].toArray⟩,M N 0] w (qN C w):=by
 have E:ByteArray.extract ⟨#[46]⟩ 0 1=⟨#[46]⟩:=mV [46] 1;have s:=λW (t:Below w.1.size w W)=>D (oU [46] 0 [46] rfl ak ak W (U r t))
 have n:Hid (mg [46]=0/\rR [46]=true):=D ⟨abv,abv⟩;go_enter Tryz.func42,Tryz.ntmps42;go_wp2_with fail;refine(s _ (aB (G _ _) _)).q.mono ?_;rintro e f ⟨rfl,g⟩;have o:=D ((aB (G w.1.size w) (I (aF 0 0 [] C) 79)).trans (g.mono ak));have i:=D ((Bx.new w (aF 0 0 [] C) 79).keep g);clear g;rw[n.q.1,n.q.2];have j:=D (aB o.q (I (aF 0 0 [] C) 79));have k:=D (i.q.alloc (I (aF 0 0 [] C) 79));have d:=D (Bx.new f (aF 0 0 [] C) 79);have a:=D (show w.1.size<f.1.size from i.q.2.2);clear o i;go_wp2_with fail;generalize f.alloc (I (aF 0 0 [] C) 79)=u at j k d ⊢;generalize f.1.size=b at d a ⊢;have x:=d.q.1;have y:=d.q.2.1;go_wp2_with fail;refine aD 99 [(0,0),(1,0),(2,0),(3,2),(4,0),(5,2)] (λ_=>True) (λ_=>True) au au (trivial) (trivial) ?_;refine qC ?_;refine aG rfl rfl (λK c=>?_);go_simp;refine c _ _ ⟨O,O⟩ ?_;clear c K;refine qC ?_;refine aG rfl rfl (λK c=>?_);go_simp;refine c _ _ ⟨O,O⟩ ?_;clear c K;refine aH ?_;have l:=D (((d.q.aX 0 ak (M N 3)).aX 2 ak (H ⟨[46].toArray⟩)).drew);have m:=D (((k.q.setOther b 0 (M N 3) abx).setOther b 2 (H ⟨[46].toArray⟩) abx).drew);have q:=D (((j.q.setCell (p:=⟨b,0,J⟩) aby (M N 3)).setCell (p:=⟨b,2,J⟩) aby (H ⟨[46].toArray⟩)).drew);generalize((u.setCell ⟨b,0,J⟩ (M N 3)).setCell ⟨b,2,J⟩ (H ⟨[46].toArray⟩)).drew=Z at l m q ⊢;clear x y k d j;have z:=m.q.1;have F:=m.q.2.1;go_wp2_with fail;refine aD 99 [(0,0),(1,0),(2,0),(3,0),(4,0),(5,0),(6,2),(7,0),(8,0)] (λ_=>True) (λA=>Bx A b (aF 3 0 [46] C)) au au (trivial) (l.q.drew) ?_;refine qC ?_;refine aG rfl rfl (λK c=>?_);go_simp;refine c _ _ ⟨O,(((l.q.drew.setOther w.1.size 0 _ abx).setOther w.1.size 1 _ abx).setOther w.1.size 2 _ abx).setOther w.1.size 3 _ abx⟩ ?_;clear c K;refine qC ?_;refine aH ?_;go_wp2_with fail;have B:IntKind.i64.wrap 1=1:=Go.IntWalk.i64_in 1 ah;refine bodyPost_ret (v:= .tuple #[.agg (aF 3 0 [46] C),M N 1,M N 0]) (by simp[results,results42,go_sem,z,B]) rfl ⟨3,0,[46],1,0,⟨C,rfl,?_⟩,abv⟩;exact lY (q.q.drew)
theorem Uk (w:World)(r:Lib.Utf8Tabs 7 8 w):Calls L 42 #[H ⟨[45].toArray⟩,M N 0] w (qN C w):=by
 have E:ByteArray.extract ⟨#[45]⟩ 0 1=⟨#[45]⟩:=mV [45] 1;have s:=λW (t:Below w.1.size w W)=>D (oU [45] 0 [45] rfl ak ak W (U r t))
 have n:Hid (mg [45]=0/\rR [45]=true):=D ⟨abv,abv⟩;go_enter Tryz.func42,Tryz.ntmps42;go_wp2_with fail;refine(s _ (aB (G _ _) _)).q.mono ?_;rintro e f ⟨rfl,g⟩;have o:=D ((aB (G w.1.size w) (I (aF 0 0 [] C) 79)).trans (g.mono ak));have i:=D ((Bx.new w (aF 0 0 [] C) 79).keep g);clear g;rw[n.q.1,n.q.2];have j:=D (aB o.q (I (aF 0 0 [] C) 79));have k:=D (i.q.alloc (I (aF 0 0 [] C) 79));have d:=D (Bx.new f (aF 0 0 [] C) 79);have a:=D (show w.1.size<f.1.size from i.q.2.2);clear o i;go_wp2_with fail;generalize f.alloc (I (aF 0 0 [] C) 79)=u at j k d ⊢;generalize f.1.size=b at d a ⊢;have x:=d.q.1;have y:=d.q.2.1;go_wp2_with fail;refine aD 99 [(0,0),(1,0),(2,0),(3,2),(4,0),(5,2)] (λ_=>True) (λ_=>True) au au (trivial) (trivial) ?_;refine qC ?_;refine aG rfl rfl (λK c=>?_);go_simp;refine c _ _ ⟨O,O⟩ ?_;clear c K;refine qC ?_;refine aG rfl rfl (λK c=>?_);go_simp;refine c _ _ ⟨O,O⟩ ?_;clear c K;refine aH ?_;have l:=D (((d.q.aX 0 ak (M N 3)).aX 2 ak (H ⟨[45].toArray⟩)).drew);have m:=D (((k.q.setOther b 0 (M N 3) abx).setOther b 2 (H ⟨[45].toArray⟩) abx).drew);have q:=D (((j.q.setCell (p:=⟨b,0,J⟩) aby (M N 3)).setCell (p:=⟨b,2,J⟩) aby (H ⟨[45].toArray⟩)).drew);generalize((u.setCell ⟨b,0,J⟩ (M N 3)).setCell ⟨b,2,J⟩ (H ⟨[45].toArray⟩)).drew=Z at l m q ⊢;clear x y k d j;have z:=m.q.1;have F:=m.q.2.1;go_wp2_with fail;refine aD 99 [(0,0),(1,0),(2,0),(3,0),(4,0),(5,0),(6,2),(7,0),(8,0)] (λ_=>True) (λA=>Bx A b (aF 3 0 [45] C)) au au (trivial) (l.q.drew) ?_;refine qC ?_;refine aG rfl rfl (λK c=>?_);go_simp;refine c _ _ ⟨O,(((l.q.drew.setOther w.1.size 0 _ abx).setOther w.1.size 1 _ abx).setOther w.1.size 2 _ abx).setOther w.1.size 3 _ abx⟩ ?_;clear c K;refine qC ?_;refine aH ?_;go_wp2_with fail;have B:IntKind.i64.wrap 1=1:=Go.IntWalk.i64_in 1 ah;refine bodyPost_ret (v:= .tuple #[.agg (aF 3 0 [45] C),M N 1,M N 0]) (by simp[results,results42,go_sem,z,B]) rfl ⟨3,0,[45],1,0,⟨C,rfl,?_⟩,abv⟩;exact lY (q.q.drew)
theorem Ov:∀args w,(callFunc 108 args).run L w= .ok (.enter 108 args) w:=enters_of func108 au rfl
theorem Ul (b:UInt8)(A:48<=b.toNat)(B:b.toNat<=57)(w:World)(o:Lib.Utf8Tabs 7 8 w):Calls L 42 #[H ⟨[b].toArray⟩,M N 0] w (qN C w):=by
 have ε:∀W,(Instr.index 9 (H ⟨#[b]⟩) (M N 0)).run L W= .ok (.int .u8 (b.toNat:Int)) W:=λW=>dQ Tryz.underlying9 [b] 0 b rfl W
 have E:eu (b.toNat:Int)=true:=by unfold eu;simp;omega
 have F:gB ⟨[b].toArray⟩ eu=1:=by
  rw[iY [b] eu ak,nM b [] ah,aA]
  .rfl
  .rw[Cx b [] ah,E];rfl
 have P:=λW (q:Below w.1.size w W)=>D (rT ⟨[b].toArray⟩ 108 #[] Ov eu W (λr s _=>kT r s) (U o q))
 rw[F] at P;have Y:=λW=>D (Rb b A B W)
 have ζ:ByteArray.extract ⟨#[b]⟩ 0 1=⟨#[b]⟩:=mV [b] 1;have η:∀W,(Instr.slice 9 (H ⟨#[b]⟩) (some (M N 0)) J J).run L W= .ok (H ⟨#[b]⟩) W:=λW=>jg Tryz.underlying9 [b] 0 ak W
 have HS:=λW (q:Below w.1.size w W)=>D (oU [b] 0 [b] rfl ak ak W (U o q))
 have Q:=D (zM (b:=b) (t:=[]) (FM ah ah) ah);have θ:((b.toNat:Int)==10)=C:=aN.2 ah;have ι:((b.toNat:Int)==46)=C:=aN.2 ah;have κ:((b.toNat:Int)==45)=C:=aN.2 ah;have μ:wrap32 (b.toNat:Int)=(b.toNat:Int):=IntWalk.wrap32_in _ (by have:=b.toNat_lt;omega);have ν:(([b]:Bs)==([]:Bs))=C:=rfl;clear A B F o
 cases h0:((b.toNat:Int)==48)
 all_goals
  go_enter Tryz.func42,Tryz.ntmps42;go_wp2_with fail;refine(HS _ (aB (G _ _) _)).q.mono ?_;rintro e u ⟨rfl,x⟩;have y:=D ((aB (G w.1.size w) (I (aF 0 0 [] C) 79)).trans (x.mono ak));have z:=D ((Bx.new w (aF 0 0 [] C) 79).keep x);clear x;rw[Q.q.1,Q.q.2];go_wp2_with fail;refine(kT _ _).mono ?_;rintro e w3 ⟨rfl,k⟩;rw[E];have l:=D ((aB y.q (I (aF 0 0 [] C) 79)).trans (k.mono (by have:=y.q.size;simp;omega)));have R:=D ((z.q.alloc (I (aF 0 0 [] C) 79)).keep k);have S:=D ((Bx.new u (aF 0 0 [] C) 79).keep k);have a:=D (show w.1.size<u.1.size from z.q.2.2);clear k;go_wp2_with fail;refine(P _ l.q).q.mono ?_;rintro e w5 ⟨rfl,m⟩;have f:=D (l.q.bL m);have g:=D (R.q.keep m);have i:=D (S.q.keep m);clear m l R S;go_wp2_with fail;refine(Y _).q.mono ?_;rintro e w4 ⟨rfl,n⟩;have T:=D (f.q.bL n);have X:=D (g.q.keep n);have j:=D (i.q.keep n);clear n f g i y z;generalize u.1.size=c at j a ⊢;have α:=j.q.1;have β:=j.q.2.1;go_wp2_with fail;refine aD 99 [(0,0),(1,0),(2,0),(3,0),(4,2),(5,0),(6,2)] (λ_=>True) (λ_=>True) au au (trivial) (trivial) ?_;refine qC ?_;refine aG rfl rfl (λK d=>?_);go_simp;refine d _ _ ⟨O,O⟩ ?_;clear d K;refine qC ?_;refine aG rfl rfl (λK d=>?_);go_simp;refine d _ _ ⟨O,O⟩ ?_;clear d K;refine aH ?_;have i:=D (((j.q.aX 0 ak (M N 2)).aX 2 ak (H ⟨[b].toArray⟩)).drew);have g:=D (((X.q.setOther c 0 (M N 2) abx).setOther c 2 (H ⟨[b].toArray⟩) abx).drew);have f:=D (((T.q.setCell (p:=⟨c,0,J⟩) (by have:=a.q;show _<=c;omega) (M N 2)).setCell (p:=⟨c,2,J⟩) (by have:=a.q;show _<=c;omega) (H ⟨[b].toArray⟩)).drew);generalize((w4.setCell ⟨c,0,J⟩ (M N 2)).setCell ⟨c,2,J⟩ (H ⟨[b].toArray⟩)).drew=Z at i g f ⊢;clear α β X j T;have γ:=g.q.1;have ξ:=g.q.2.1;go_wp2_with fail;refine aD 99 [(0,0),(1,0),(2,0),(3,0),(4,0),(5,0),(6,2),(7,0),(8,0)] (λ_=>True) (λs=>Bx s c (aF 2 0 [b] C)) au au (trivial) (i.q.drew) ?_;refine qC ?_;refine aG rfl rfl (λK d=>?_);go_simp;refine d _ _ ⟨O,(((i.q.drew.setOther w.1.size 0 _ abx).setOther w.1.size 1 _ abx).setOther w.1.size 2 _ abx).setOther w.1.size 3 _ abx⟩ ?_;clear d K;refine qC ?_;refine aH ?_;go_wp2_with fail;have δ:IntKind.i64.wrap 1=1:=Go.IntWalk.i64_in 1 ah;refine bodyPost_ret (v:= .tuple #[.agg (aF 2 0 [b] C),M N 1,M N 0]) (by simp[results,results42,go_sem,γ,δ]) rfl ⟨2,0,[b],1,0,⟨C,rfl,?_⟩,abv⟩;exact lY (f.q.drew)
theorem Ow (b:UInt8)(a:b.toNat<128)(m:b.toNat≠32)(n:b.toNat≠9)(E:b.toNat≠10)(o:b.toNat≠35)(F:b.toNat≠46)(K:b.toNat≠45)(P:¬(48<=b.toNat/\b.toNat<=57))(p:fF (b.toNat:Int)=C)
  (w:World) (d:Lib.Utf8Tabs 7 8 w):Calls L 42 #[H ⟨[b].toArray⟩,M N 0] w (qN C w):=by
 have f:=D (zM (t:=[]) (FM m n) o);have q:=λW (a:Below w.1.size w W)=>D (oU [b] 0 [b] rfl ak ak W (U d a))
 have g:eu (b.toNat:Int)=C:=by unfold eu;simp;omega
 have s:gB ⟨[b].toArray⟩ iA=0:=by
  rw[iY [b] iA ak,nM b [] a,ay];rw[Cx b [] a];simp only[iA,p,g];simp
 have h:=λW (a:Below w.1.size w W)=>D (rT ⟨[b].toArray⟩ 111 #[] Du iA W (λr u _=>yD r u) (U d a))
 rw[s] at h;have Q:∀W,(Instr.index 9 (H ⟨#[b]⟩) (M N 0)).run L W= .ok (.int .u8 (b.toNat:Int)) W:=λW=>dQ Tryz.underlying9 [b] 0 b rfl W
 have R:ByteArray.extract ⟨#[b]⟩ 0 1=⟨#[b]⟩:=mV [b] 1;have S:∀W,(Instr.slice 9 (H ⟨#[b]⟩) (some (M N 0)) J J).run L W= .ok (H ⟨#[b]⟩) W:=λW=>jg Tryz.underlying9 [b] 0 ak W
 have T:((b.toNat:Int)==10)=C:=aN.2 ah;have X:((b.toNat:Int)==46)=C:=aN.2 ah;have Y:((b.toNat:Int)==45)=C:=aN.2 ah;have Z:wrap32 (b.toNat:Int)=(b.toNat:Int):=IntWalk.wrap32_in _ (by have:=b.toNat_lt;omega);have α:(([b]:Bs)==([]:Bs))=C:=rfl;go_enter Tryz.func42,Tryz.ntmps42;go_wp2_with fail;refine(q _ (aB (G _ _) _)).q.mono ?_;rintro e w1 ⟨rfl,i⟩;have j:=D ((aB (G w.1.size w) (I (aF 0 0 [] C) 79)).trans (i.mono ak));have x:=D ((Bx.new w (aF 0 0 [] C) 79).keep i);rw[f.q.1,f.q.2];go_wp2_with fail;refine(kT _ _).mono ?_;rintro e w3 ⟨rfl,k⟩;rw[g];have c:=D ((aB j (I (aF 0 0 [] C) 79)).trans (k.mono (by have:=j.q.size;simp;omega)));have y:=D ((x.q.alloc (I (aF 0 0 [] C) 79)).keep k);go_wp2_with fail;refine(h _ c.q).q.mono ?_;rintro e w4 ⟨rfl,l⟩;have z:=D (c.trans (l.mono c.size));have A:=y.keep l;have B:=A.1
 go_wp2
 refine bodyPost_ret (v:= .tuple #[.agg (aF 0 0 [] C),M N 0,M N 120]) (by simp[results,results42,go_sem,B]) rfl ⟨0,0,[],0,120,⟨C,rfl,?_⟩,abv⟩;exact lY z
theorem Lx (a:Bs)(c:Nat)(hc:Utf8.decode ⟨a.toArray⟩ 0=(c,a.length))(j:okB ⟨a.toArray⟩ 0=true)(k:1<=a.length)(z:a.length<=4)(w:World)(d:Lib.Utf8Tabs 7 8 w):
  Calls L 42 #[H ⟨a.toArray⟩,M N 0] w (qN (fF (c:Int)) w):=by
 have g:a≠[]:=by intro e;rw[e] at k;simp at k
 cases f:fF (c:Int)
 .obtain⟨b,t,rfl⟩:∃b t,a=b::t:=by cases a with
   |nil=>exact absurd rfl g
   |cons b t=>exact⟨b,t,rfl⟩
  have l:b.toNat<128:=by
   rcases jk b.toNat 128 with h|h
   .exact h
   .have:=(vS b t h).1
    rw[hc] at this;simp[fF] at f;simp at this;omega
  rw[nM b t l] at hc;obtain⟨rfl,m⟩:b.toNat=c/\1=(b::t).length:=by injection hc with u v;exact⟨u,v⟩
  obtain rfl:t=[]:=yw (by simp at m;simpa using m);by_cases n:b.toNat=32
  .obtain rfl:b=32:=gD.1 n;exact Ug w d
  by_cases o:b.toNat=9
  .obtain rfl:b=9:=gD.1 o;exact Wp w d
  by_cases p:b.toNat=10
  .obtain rfl:b=10:=gD.1 p;exact Ui w d
  by_cases q:b.toNat=35
  .obtain rfl:b=35:=gD.1 q;exact Uh w d
  by_cases r:b.toNat=46
  .obtain rfl:b=46:=gD.1 r;exact Uj w d
  by_cases s:b.toNat=45
  .obtain rfl:b=45:=gD.1 s;exact Uk w d
  by_cases i:48<=b.toNat/\b.toNat<=57
  .exact Ul b i.1 i.2 w d
  exact Ow b l n o p q r s i f w d
 .have x:bY a=true:=by
   unfold bY;rw[j,hc,show((c,a.length):Nat × Nat).1=c from rfl,f]
   cases a with
   |nil=>exact absurd rfl g
   |cons b t=>rfl
  have y:bB a=a.length:=by
   unfold bB;rw[iY a iA g,j,hc];simp only[iA,f];rw[aA ak,List.drop_length]
   rfl
  have:=Io a 0 a rfl (aS _) ah x w d
  apply this.mono
  intro e A h;rw[y,ay ah] at h;exact⟨1,_,_,_,0,h,abv⟩
variable{R p:Nat}{s:Bs}{c:aW}{n:aK}
theorem JF (w:World)(h:dL w R s p [] c n):Calls L 158 #[.pointer (some ⟨R,0,J⟩)] w (bT (V C) w):=by
 have i:=h.lim;have f:=h.le;have g:=λW=>jg Tryz.underlying9 s p f W
 rw[h.d] at g;have a:=D h;clear h;go_enter func158,ntmps158;go_wp2_with fail;refine aD 10 [(0,0),(1,0),(2,0),(3,0),(4,0),(5,0),(6,0),(7,0),(8,0),(9,2)] (λ_=>True) (λd=>d.cell? ⟨R,0,J⟩=some (H ⟨s.toArray⟩)/\d.cell? ⟨R,1,J⟩=some (M N p)) au au (trivial) (⟨a.q.drew.c0,a.q.drew.c1⟩) ?_;refine qC ?_;refine aG rfl rfl (λK e=>?_);go_simp;refine e _ _ ⟨O,?_,?_⟩ ?_
 .exact(a.q.drew.below (iN _ _)).c0
 .exact(a.q.drew.below (iN _ _)).c1
 clear e K;refine aH ?_;have j:∀b,(Instr.next (.pointer (some ⟨w.1.size,0,J⟩)) true b).run L (w.drew.iter ⟨([]:Bs).toArray⟩ 0)=_:=λb=>Lib.run_next_end_at _ w.1.size ⟨([]:Bs).toArray⟩ 0 b (World.iter_heap w.drew _ 0) aj
 go_wp2_with fail
 go_loopw [] (λwr=>wr=w.drew.iter ⟨([]:Bs).toArray⟩ 0) (λ_=>0)
 case atStart=>rfl
 case round=>
  subst hrel;go_wp2_with fail;go_ret;exact⟨rfl,(G w.1.size w).drew.trans (iN w.drew ⟨([]:Bs).toArray⟩)⟩
theorem Cy {b:UInt8}{t:Bs}(w:World)(h:dL w R s p (b::t) c n)(B d:Nat)(o:Utf8.decode ⟨(b::t).toArray⟩ 0=(B,d))(u:Bs)(ζ:Utf8.encode (B:Int)=⟨u.toArray⟩)(x E:Bool)
  (F:∀W,Below w.1.size w W->Calls L 42 #[H ⟨u.toArray⟩,M N 0] W (qN x W)) (P:∀W,Calls L 191 #[H ⟨(b::t).toArray⟩,H ⟨u.toArray⟩] W (λe w'=>e= .returned (V E)/\w'=W)):
  Calls L 158 #[.pointer (some ⟨R,0,J⟩)] w (bT (V (x && E)) w):=by
 have η:=h.lim;have β:=h.le;have γ:=λW=>jg Tryz.underlying9 s p β W
 rw[h.d] at γ;have i:=D h;have δ:=D F;have ε:=D P;have θ:=D o;clear h F P;have ι:w.drew.1.size=w.1.size:=rfl;go_enter func158,ntmps158;go_wp2_with fail;refine aD 10 [(0,0),(1,0),(2,0),(3,0),(4,0),(5,0),(6,0),(7,0),(8,0),(9,2)] (λ_=>True) (λQ=>Q.cell? ⟨R,0,J⟩=some (H ⟨s.toArray⟩)/\Q.cell? ⟨R,1,J⟩=some (M N p)) au au (trivial) (⟨i.q.drew.c0,i.q.drew.c1⟩) ?_;refine qC ?_;refine aG rfl rfl (λK S=>?_);go_simp;refine S _ _ ⟨O,?_,?_⟩ ?_
 .exact(i.q.drew.below (iN _ _)).c0
 .exact(i.q.drew.below (iN _ _)).c1
 clear S K;refine aH ?_;have m:∀q,(Instr.next (.pointer (some ⟨w.1.size,0,J⟩)) true q).run L (w.drew.iter ⟨(b::t).toArray⟩ 0)=_:=λq=>Lib.run_next_any_at _ w.1.size ⟨(b::t).toArray⟩ 0 q (World.iter_heap w.drew _ 0) (by rw[dW];simp)
 rw[o] at m;have T:Below w.1.size w (w.drew.iter ⟨(b::t).toArray⟩ 0):=(G w.1.size w).drew.trans (iN w.drew _);have r:=Lib.below_iterAt T (k:=w.1.size) (aC _) ⟨(b::t).toArray⟩ (0+d);have j:=D r;have v:=D (i.q.below r);clear r o T;go_wp2_with fail
 go_loopw [] (λwr=>wr=w.drew.iter ⟨(b::t).toArray⟩ 0) (λ_=>0)
 case atStart=>rfl
 case round=>
  subst hrel;revert m j v;generalize((w.drew.iter ⟨(b::t).toArray⟩ 0).iterAt w.1.size ⟨(b::t).toArray⟩ (0+d))=Z;intro m j v;go_wp2_with fail;refine(δ.q Z j.q).mono ?_;rintro e w2 ⟨k,a,X,nx,er,⟨g,rfl,y⟩,f⟩;have z:=D (j.q.bL y);have Y:=v.q.below y;have H2:=D (Y.below (aB (G _ _) (I (aF k a X g) 79)));have κ:=(Bx.new w2 (aF k a X g) 79).1;have c0:=H2.q.c0;have c1:=H2.q.c1;clear y Y m
  cases A:(er==0)
  .have l:Hid (x=C):=D (by rw[<-f,A];rfl)
   clear f
   go_wp2_with (go_quiet (fail))
   go_ret;exact⟨by rw[l.q];rfl,dm (aB z.q _) _⟩
  .cases α:(k==1)
   .have l:Hid (x=C):=D (by rw[<-f,A,α];rfl)
    clear f
    go_wp2_with (go_quiet (fail))
    go_ret;exact⟨by rw[l.q];rfl,dm (aB z.q _) _⟩
   .have l:Hid (x=true):=D (by rw[<-f,A,α];rfl)
    clear f
    go_wp2_with (go_quiet (exact(ε.q _).mono (λe μ h=>⟨h.1,_,h.2⟩)))
    go_ret;exact⟨by rw[l.q];rfl,dm (aB z.q _) _⟩
theorem GL (l:Bs)(k:Nat):Lib.hasPrefix l (l.take k)=true:=by
 unfold Lib.hasPrefix;rw[List.isPrefixOf_iff_prefix];exact List.take_prefix _ _
variable{l:Bs}
theorem Ef (w:World)(h:dL w R s p l c n)(q:Lib.Utf8Tabs 7 8 w):Calls L 158 #[.pointer (some ⟨R,0,J⟩)] w (bT (V (bY l)) w):=by
 cases l with
 |nil=>exact JF w h
 |cons b t=>
  obtain⟨a,g⟩:∃a,a=(Utf8.decode ⟨(b::t).toArray⟩ 0).1:=⟨_,rfl⟩;obtain⟨d,e⟩:∃d,d=(Utf8.decode ⟨(b::t).toArray⟩ 0).2:=⟨_,rfl⟩;have i:Utf8.decode ⟨(b::t).toArray⟩ 0=(a,d):=by rw[g,e]
  have F:d<=(b::t).length:=by rw[e];exact vT _ ak
  have K:1<=d:=by rw[e];exact wM _ ak
  have y:bY (b::t)=(okB ⟨(b::t).toArray⟩ 0 && fF (a:Int)):=by
   unfold bY;rw[<-g];rfl
  rw[y]
  cases f:okB ⟨(b::t).toArray⟩ 0
  .have j:a=65533/\¬d=3:=by
    unfold okB at f;rw[<-g,<-e] at f;simp at f;omega
   have z:Lib.hasPrefix (b::t) [239,191,189]=C:=by
    cases k:Lib.hasPrefix (b::t) [239,191,189]
    .rfl
    .exfalso
     unfold Lib.hasPrefix at k;rw[List.isPrefixOf_iff_prefix] at k;obtain⟨r,u⟩:=k;have A:3<=ByteArray.size ⟨(b::t).toArray⟩:=by rw[dW,<-u];simp
     have:=(ND ⟨(b::t).toArray⟩ A (by rw[<-g];exact j.1)).2 (by rw[<-u,mV];rfl);exact j.2 (by rw[e];exact this)
   have:=Cy w h a d i [239,191,189] (by rw[j.1];rfl) true C
    (λW m=>Lx [239,191,189] 65533 aj aj aj aj W (U q m))
    (λW=>by
     have:=Tryz.strings_HasPrefix ⟨(b::t).toArray⟩ ⟨([239,191,189]:Bs).toArray⟩ W;rw[show Lib.hasPrefix (⟨(b::t).toArray⟩:ByteArray).data.toList (⟨([239,191,189]:Bs).toArray⟩:ByteArray).data.toList=C from z] at this;exact this)
   exact this
  .obtain⟨v,o,B⟩:=JG (b::t) ak f
   rw[<-g,<-e] at v;rw[<-e,i] at o;have x:((b::t).take d).length=d:=by rw[dJ];omega
   have E:okB ⟨((b::t).take d).toArray⟩ 0=true:=by
    unfold okB at f ⊢;rw[o];rw[i] at f;exact f
   have:=Cy w h a d i ((b::t).take d) v (fF (a:Int)) true
    (λW m=>Lx ((b::t).take d) a (by rw[o,x]) E ah (by rw[x,e];exact B) W (U q m))
    (λW=>by
     have:=Tryz.strings_HasPrefix ⟨(b::t).toArray⟩ ⟨((b::t).take d).toArray⟩ W;rw[show Lib.hasPrefix (⟨(b::t).toArray⟩:ByteArray).data.toList (⟨((b::t).take d).toArray⟩:ByteArray).data.toList=true from GL (b::t) d] at this;exact this)
   rw[Bool.and_true] at this;rw[Bool.true_and];exact this
variable{w:World}
theorem dL.apart (h:dL w R s p l c n)(b:Nat)(e:iX R c b)(k a:Int)(t:Bs)(g:Bool):
  dL ((((w.setCell ⟨b,0,J⟩ (M N k)).setCell ⟨b,1,J⟩ (M N a)).setCell ⟨b,2,J⟩ (H ⟨t.toArray⟩)).setCell ⟨b,3,J⟩ (V g)) R s p l c n:=by
 have d:∀{w:World}(h:dL w R s p l c n)(i:Nat)(v:Value),dL (w.setCell ⟨b,i,J⟩ v) R s p l c n:=fun {w} h i v=>
  ⟨h.x.setOther b i v (Ne.symm e.1),⟨h.n.1,h.n.2.1.block λg f=>Below.heap_setCell _ _ _ _ (by rintro rfl;exact e.2.1 f),h.n.2.2.block λg f=>Below.heap_setCell _ _ _ _ (by rintro rfl;exact e.2.2 f)⟩,h.d,h.le,h.lim⟩
 exact d (d (d (d h 0 _) 1 _) 2 _) 3 _
theorem AL (w:World)(h:dL w R s p l c n)(hT:Lib.Utf8Tabs 7 8 w):
  Calls L 154 #[.pointer (some ⟨R,0,J⟩)] w (lq R s c n w (λm:Bs=> H ⟨m.toArray⟩) (bU l)):=by
 obtain⟨X,hX⟩:∃X,X=bU l:=⟨_,rfl⟩;rw[<-hX];have HX:=D hX;have φ:=h.len;have ρ:=h.lim;have σ:=h.le;have HE:=D (AO w h);have ζ:=λW (x:Below w.1.size w W)=>D (Ef W (h.below x) (U hT x))
 have HH:=D h;clear hX h;by_cases x:dO l=C/\bY l=true
 .obtain⟨F,Y⟩:=x
  have P:=λW (x:Below w.1.size w W)=>Io s p l HH.q.d σ ρ Y W (U hT x)
  have η:bB l<=l.length:=rU _ _ _ (aC _);by_cases δ:24<bB l
  .simp only[aA δ] at P
   have τ:=yU (l.take (bB l));obtain⟨q,hq⟩:∃q,q=p+iE (l.take (bB l)):=⟨_,rfl⟩;rw[<-hq] at P;have HL:=D P;have Q:Hid (bU l= .error (l.drop (iE (l.take (bB l))),220)):=D (by unfold bU;rw[ay (by rw[F,Y];decide),aA δ]);have S:Hid (s.length - (l.drop (iE (l.take (bB l)))).length=q):=D (by rw[dY];omega);rw[F] at HE;have HG:=D Y;clear P F Y δ τ hq hT η;go_enter func154,ntmps154;go_wp2_with fail;refine HE.q.mono ?_;rintro e w1 ⟨rfl,y⟩;have u:=D y;clear y;go_wp2_with fail;refine(ζ _ u.q).q.mono ?_;rintro e a ⟨rfl,T⟩;rw[HG.q];have j:=D (u.q.bL T);have d:=D (HH.q.below j.q);have θ:=D (d.q.new (aC _));have z:=d.q.c0;have v:=d.q.c1;have A:=f1 d.q 1;clear T;go_wp2_with fail;refine jR 99 (.q 0 0 (.q 1 0 (.q 2 0 (.q 3 0 (.q 4 0 (.q 5 0 (.q 6 0 (.q 7 0 (.alt 8 (.q 9 0 (.q 10 0 (.q 11 0 (.q 12 0 (.l 13 (.l 14 (.q 15 0 (.q 16 0 .nil)))))))) 13 (.l 8 (.q 9 0 (.q 10 0 (.q 11 0 (.q 12 0 (.l 14 (.q 15 0 (.q 16 0 .nil))))))))))))))))) (λ_=>True) (λW'=>W'.cell? ⟨R,0,J⟩=some (H ⟨s.toArray⟩)/\W'.cell? ⟨R,1,J⟩=some (M N p)) au au O ⟨d.q.drew.c0,d.q.drew.c1⟩ ?_;refine qC ?_;refine⟨?_,?_⟩
   .refine dF rfl rfl (λK b=>?_)
    go_simp;refine(HL.q _ j.q.drew).mono ?_;rintro e t ⟨g,rfl,o⟩;have k:=d.q.drew.below o;have f:=D k;have Z:=D (j.q.drew.trans (o.mono j.q.size));refine b _ _ ⟨O,k.c0,k.c1⟩ ?_;clear b K o k z v A;refine qC ?_;refine aG rfl rfl (λK b=>?_);go_simp;refine b _ _ ⟨O,(f.q.below (aB (G _ _) _)).c0,(f.q.below (aB (G _ _) _)).c1⟩ ?_;clear b K;refine aG rfl rfl (λK b=>?_);go_simp;refine b _ _ ⟨O,(f.q.below (aB (G _ _) _)).c0,(f.q.below (aB (G _ _) _)).c1⟩ ?_;clear b K;refine qC ?_;have r:=D (f.q.below (aB (G t.1.size t) (I (aF 0 0 [] g) 79)));have α:=D (aB Z.q (I (aF 0 0 [] g) 79));have B:=D (Bx.new t (aF 0 0 [] g) 79);have i:Hid (t.1.size≠R):=D (by have:=f.q.x.2.2;omega);refine aH ?_;have z:=r.q.c0;have v:=r.q.c1;have A:=f1 r.q 1;have ι:=B.q.1;have β:=D (Mv.of_below (R:=R) (c:=c) α.q);go_wp2_with fail;refine(jS q 220 _).mono ?_;rintro e w6 ⟨rfl,rfl⟩;refine⟨rfl,?_⟩;show lq R s c n w _ _ _ _;rw[HX.q,Q.q];exact⟨by rw[S.q],β.q.same⟩
   .refine dF rfl rfl (λK b=>?_)
    go_simp;refine b _ _ ⟨O,(d.q.drew.below (aB (G _ _) _)).c0,(d.q.drew.below (aB (G _ _) _)).c1⟩ ?_;clear b K;refine aG rfl rfl (λK b=>?_);go_simp;refine(HL.q _ (aB j.q.drew (I (aF 0 0 [] C) 79))).mono ?_;rintro e t ⟨g,rfl,o⟩;have k:=(d.q.drew.below (aB (G _ _) (I (aF 0 0 [] C) 79))).below o;have f:=D k;have Z:=D ((aB j.q.drew (I (aF 0 0 [] C) 79)).trans (o.mono (aB j.q.drew (I (aF 0 0 [] C) 79)).size));have ε:Bx t a.1.size (aF 0 0 [] C):=(Bx.new a.drew (aF 0 0 [] C) 79).keep o;have γ:=D ε;have i:Hid (a.1.size≠R):=D (by have:=d.q.x.2.2;omega);have E:Hid (w.1.size<=a.1.size):=D j.q.size;refine b _ _ ⟨O,k.c0,k.c1⟩ ?_;clear b K o k z v A ε;have κ:=γ.q.1;have μ:=γ.q.2.1;refine qC ?_;refine aG rfl rfl (λK b=>?_);go_simp;refine b _ _ ⟨O,((((f.q.x.other (p:=⟨a.1.size,0,J⟩) i.q.symm _).other (p:=⟨a.1.size,1,J⟩) i.q.symm _).other (p:=⟨a.1.size,2,J⟩) i.q.symm _).other (p:=⟨a.1.size,3,J⟩) i.q.symm _).1 0,((((f.q.x.other (p:=⟨a.1.size,0,J⟩) i.q.symm _).other (p:=⟨a.1.size,1,J⟩) i.q.symm _).other (p:=⟨a.1.size,2,J⟩) i.q.symm _).other (p:=⟨a.1.size,3,J⟩) i.q.symm _).1 1⟩ ?_;clear b K κ μ;refine qC ?_;have r:=D (f.q.apart a.1.size θ.q 0 0 [] g);have α:=D ((((Z.q.setCell (p:=⟨a.1.size,0,J⟩) E.q (M N 0)).setCell (p:=⟨a.1.size,1,J⟩) E.q (M N 0)).setCell (p:=⟨a.1.size,2,J⟩) E.q (H ⟨[].toArray⟩)).setCell (p:=⟨a.1.size,3,J⟩) E.q (V g));have B:=D ((((γ.q.aX 0 ak (M N 0)).aX 1 ak (M N 0)).aX 2 ak (H ⟨[].toArray⟩)).aX 3 ak (V g));refine aH ?_;have z:=r.q.c0;have v:=r.q.c1;have A:=f1 r.q 1;have ι:=B.q.1;have β:=D (Mv.of_below (R:=R) (c:=c) α.q);go_wp2_with fail;refine(jS q 220 _).mono ?_;rintro e w6 ⟨rfl,rfl⟩;refine⟨rfl,?_⟩;show lq R s c n w _ _ _ _;rw[HX.q,Q.q];exact⟨by rw[S.q],β.q.same⟩
  .simp only[ay δ] at P
   obtain⟨q,hq⟩:∃q,q=p+bB l:=⟨_,rfl⟩;rw[<-hq] at P;have HL:=D P;have Q:Hid (bU l= .ok (l.take (bB l),l.drop (bB l))):=D (by unfold bU;rw[ay (by rw[F,Y];decide),ay δ]);have S:=D hq;have π:=D η;rw[F] at HE;have HG:=D Y;clear P F Y δ hq hT η;go_enter func154,ntmps154;go_wp2_with fail;refine HE.q.mono ?_;rintro e w1 ⟨rfl,y⟩;have u:=D y;clear y;go_wp2_with fail;refine(ζ _ u.q).q.mono ?_;rintro e a ⟨rfl,T⟩;rw[HG.q];have j:=D (u.q.bL T);have d:=D (HH.q.below j.q);have θ:=D (d.q.new (aC _));have z:=d.q.c0;have v:=d.q.c1;have A:=f1 d.q 1;clear T;go_wp2_with fail;refine jR 99 (.q 0 0 (.q 1 0 (.q 2 0 (.q 3 0 (.q 4 0 (.q 5 0 (.q 6 0 (.q 7 0 (.alt 8 (.q 9 0 (.q 10 0 (.q 11 0 (.q 12 0 (.l 13 (.l 14 (.q 15 0 (.q 16 0 .nil)))))))) 13 (.l 8 (.q 9 0 (.q 10 0 (.q 11 0 (.q 12 0 (.l 14 (.q 15 0 (.q 16 0 .nil))))))))))))))))) (λ_=>True) (λW'=>W'.cell? ⟨R,0,J⟩=some (H ⟨s.toArray⟩)/\W'.cell? ⟨R,1,J⟩=some (M N p)) au au O ⟨d.q.drew.c0,d.q.drew.c1⟩ ?_;refine qC ?_;refine⟨?_,?_⟩
   .refine dF rfl rfl (λK b=>?_)
    go_simp;refine(HL.q _ j.q.drew).mono ?_;rintro e t ⟨g,rfl,o⟩;have k:=d.q.drew.below o;have f:=D k;have Z:=D (j.q.drew.trans (o.mono j.q.size));refine b _ _ ⟨O,k.c0,k.c1⟩ ?_;clear b K o k z v A;refine qC ?_;refine aG rfl rfl (λK b=>?_);go_simp;refine b _ _ ⟨O,(f.q.below (aB (G _ _) _)).c0,(f.q.below (aB (G _ _) _)).c1⟩ ?_;clear b K;refine aG rfl rfl (λK b=>?_);go_simp;refine b _ _ ⟨O,(f.q.below (aB (G _ _) _)).c0,(f.q.below (aB (G _ _) _)).c1⟩ ?_;clear b K;refine qC ?_;have r:=D (f.q.below (aB (G t.1.size t) (I (aF 1 p (l.take (bB l)) g) 79)));have α:=D (aB Z.q (I (aF 1 p (l.take (bB l)) g) 79));have B:=D (Bx.new t (aF 1 p (l.take (bB l)) g) 79);have i:Hid (t.1.size≠R):=D (by have:=f.q.x.2.2;omega);refine aH ?_;have z:=r.q.c0;have v:=r.q.c1;have A:=f1 r.q 1;have ι:=B.q.1;have β:=D (Mv.of_below (R:=R) (c:=c) α.q);have ht:=r.q.to (bB l) rfl π.q q S.q;have ν:=D ht.1;have ξ:=D (β.q.trans ht.2);have ο:=D (B.q.setOther R 1 (M N (q:Int)) i.q);have υ:=ο.q.1;clear ht;go_wp2_with fail;go_ret;show lq R s c n w _ _ _ _;rw[HX.q,Q.q];exact⟨rfl,q,ν.q,ξ.q⟩
   .refine dF rfl rfl (λK b=>?_)
    go_simp;refine b _ _ ⟨O,(d.q.drew.below (aB (G _ _) _)).c0,(d.q.drew.below (aB (G _ _) _)).c1⟩ ?_;clear b K;refine aG rfl rfl (λK b=>?_);go_simp;refine(HL.q _ (aB j.q.drew (I (aF 0 0 [] C) 79))).mono ?_;rintro e t ⟨g,rfl,o⟩;have k:=(d.q.drew.below (aB (G _ _) (I (aF 0 0 [] C) 79))).below o;have f:=D k;have Z:=D ((aB j.q.drew (I (aF 0 0 [] C) 79)).trans (o.mono (aB j.q.drew (I (aF 0 0 [] C) 79)).size));have ε:Bx t a.1.size (aF 0 0 [] C):=(Bx.new a.drew (aF 0 0 [] C) 79).keep o;have γ:=D ε;have i:Hid (a.1.size≠R):=D (by have:=d.q.x.2.2;omega);have E:Hid (w.1.size<=a.1.size):=D j.q.size;refine b _ _ ⟨O,k.c0,k.c1⟩ ?_;clear b K o k z v A ε;have κ:=γ.q.1;have μ:=γ.q.2.1;refine qC ?_;refine aG rfl rfl (λK b=>?_);go_simp;refine b _ _ ⟨O,((((f.q.x.other (p:=⟨a.1.size,0,J⟩) i.q.symm _).other (p:=⟨a.1.size,1,J⟩) i.q.symm _).other (p:=⟨a.1.size,2,J⟩) i.q.symm _).other (p:=⟨a.1.size,3,J⟩) i.q.symm _).1 0,((((f.q.x.other (p:=⟨a.1.size,0,J⟩) i.q.symm _).other (p:=⟨a.1.size,1,J⟩) i.q.symm _).other (p:=⟨a.1.size,2,J⟩) i.q.symm _).other (p:=⟨a.1.size,3,J⟩) i.q.symm _).1 1⟩ ?_;clear b K κ μ;refine qC ?_;have r:=D (f.q.apart a.1.size θ.q 1 p (l.take (bB l)) g);have α:=D ((((Z.q.setCell (p:=⟨a.1.size,0,J⟩) E.q (M N 1)).setCell (p:=⟨a.1.size,1,J⟩) E.q (M N p)).setCell (p:=⟨a.1.size,2,J⟩) E.q (H ⟨(l.take (bB l)).toArray⟩)).setCell (p:=⟨a.1.size,3,J⟩) E.q (V g));have B:=D ((((γ.q.aX 0 ak (M N 1)).aX 1 ak (M N p)).aX 2 ak (H ⟨(l.take (bB l)).toArray⟩)).aX 3 ak (V g));refine aH ?_;have z:=r.q.c0;have v:=r.q.c1;have A:=f1 r.q 1;have ι:=B.q.1;have β:=D (Mv.of_below (R:=R) (c:=c) α.q);have ht:=r.q.to (bB l) rfl π.q q S.q;have ν:=D ht.1;have ξ:=D (β.q.trans ht.2);have ο:=D (B.q.setOther R 1 (M N (q:Int)) i.q);have υ:=ο.q.1;clear ht;go_wp2_with fail;go_ret;show lq R s c n w _ _ _ _;rw[HX.q,Q.q];exact⟨rfl,q,ν.q,ξ.q⟩
 .have Q:Hid (bU l= .error (l,220)):=D (by
   unfold bU;rw[aA]
   .cases h1:dO l
    .cases h2:bY l
     .rfl
     .exact absurd ⟨h1,h2⟩ x
    .rfl)
  have HN:=D x;have S:Hid (s.length - l.length=p):=D ah;clear x hT;go_enter func154,ntmps154;go_wp2_with fail;refine HE.q.mono ?_;rintro e w1 ⟨rfl,y⟩;have u:=D y;have v:=(HH.q.below y).c1;clear y
  cases F:dO l
  .go_wp2_with fail
   refine(ζ _ u.q).q.mono ?_;rintro e a ⟨rfl,T⟩;rw[show bY l=C by cases h2:bY l;rfl;exact absurd ⟨F,h2⟩ HN.q];have j:=D (u.q.bL T);have v:=(HH.q.below j.q).c1;clear T;go_wp2_with fail;refine(jS p 220 _).mono ?_;rintro e w6 ⟨rfl,rfl⟩;refine⟨rfl,?_⟩;show lq R s c n w _ _ _ _;rw[HX.q,Q.q];exact⟨by rw[S.q],Same.of_below j.q (λ_ _ h=>h)⟩
  .go_wp2_with fail
   refine(jS p 220 _).mono ?_;rintro e w6 ⟨rfl,rfl⟩;refine⟨rfl,?_⟩;show lq R s c n w _ _ _ _;rw[HX.q,Q.q];exact⟨by rw[S.q],Same.of_below u.q (λ_ _ h=>h)⟩
@[reducible] def addN (n:aK)(m:Bs):aK:={n with names:=n.names++[m]}
@[reducible] def Cz (c:aW)(a:Option Addr)(k b:Nat):aW:={c with na:=a,nn:=k,nc:=b}
theorem dL.c3 (h:dL w R s p l c n):w.cell? ⟨R,3,J⟩=some (.slice c.na c.nn c.nc):=h.x.1 3
theorem dL.c5 (h:dL w R s p l c n):w.cell? ⟨R,5,J⟩=some (.slice c.va c.vn c.vc):=h.x.1 5
theorem dL.addN {X Y:World}{m:Bs}(h:dL w R s p l c n)(d:Below w.1.size w X)(b:Option Addr)(c':Nat)
  (f:Own Y (R+1) 9 1 encStr (.slice b (c.nn+1) c') (n.names++[m])) (a:X.grownBy Y (Value.slice c.na c.nn c.nc).ownBlock)
  (o:(Value.slice b (c.nn+1) c').ownBlock=(Value.slice c.na c.nn c.nc).ownBlock\/(Value.slice b (c.nn+1) c').ownBlock=some X.1.size):
  dL (Y.setCell ⟨R,3,J⟩ (.slice b (c.nn+1) c')) R s p l (Cz c b (c.nn+1) c') (addN n m)/\Mv R c (Cz c b (c.nn+1) c') w (Y.setCell ⟨R,3,J⟩ (.slice b (c.nn+1) c')):=by
 have P:=h.x.2.2;have Q:=d.size;have q:(Value.slice c.na c.nn c.nc).ownBlock≠some R:=h.n.2.1.far' (.inl ah);have r:=h.n.2.2.apart h.n.2.1 aj;have t:=h.x.keep d;have u:Bx Y R (oV s p c):=t.grown a q;have j:Own Y (R+1) 61 2 pG (.slice c.va c.vn c.vc) n.aM:=(h.n.2.2.below d rfl).grown a (λg a=>r g a);obtain⟨⟨v,x,y,z,A,B⟩,_,_⟩:=h.n;have E:Same (iX R c) X Y:=⟨a.os,a.tape,a.output,a.size,λi F K=>a.block i K (λe=>F.2.1 e.symm)⟩;refine⟨⟨?_,⟨⟨v,x,y,z,by simp[A],B⟩,?_,?_⟩,h.d,h.le,h.lim⟩,((Same.of_below d (λ_ _ h=>h)).tr E).tr (Same.setCell _ _ _ _ (λe=>e.1 rfl)),?_,λ_ h=> .inl h⟩
 .exact u.aX 3 ak _
 .exact f.block λg a=>Below.heap_setCell _ _ _ _ (by have:=(f.lt g a).1;simp;omega)
 .exact j.block λg a=>Below.heap_setCell _ _ _ _ (by have:=(j.lt g a).1;simp;omega)
 .intro g k
  rcases o with e|e
  .exact .inl (e▸k)
  .right
   have:some g=some X.1.size:=k.symm.trans e;injection this with this;omega
@[reducible] def jr (n:aK)(v:To):aK:={n with aM:=n.aM++[v]}
@[reducible] def yu (c:aW)(a:Option Addr)(k b:Nat):aW:={c with va:=a,vn:=k,vc:=b}
theorem dL.jr {X Y:World}{v:To}(h:dL w R s p l c n)(d:Below w.1.size w X)(b:Option Addr)(c':Nat)
  (f:Own Y (R+1) 61 2 pG (.slice b (c.vn+1) c') (n.aM++[v])) (a:X.grownBy Y (Value.slice c.va c.vn c.vc).ownBlock)
  (m:(Value.slice b (c.vn+1) c').ownBlock=(Value.slice c.va c.vn c.vc).ownBlock\/(Value.slice b (c.vn+1) c').ownBlock=some X.1.size):
  dL (Y.setCell ⟨R,5,J⟩ (.slice b (c.vn+1) c')) R s p l (yu c b (c.vn+1) c') (jr n v)/\Mv R c (yu c b (c.vn+1) c') w (Y.setCell ⟨R,5,J⟩ (.slice b (c.vn+1) c')):=by
 have P:=h.x.2.2;have Q:=d.size;have o:(Value.slice c.va c.vn c.vc).ownBlock≠some R:=h.n.2.2.far' (.inl ah);have q:=h.n.2.1.apart h.n.2.2 aj;have r:=h.x.keep d;have t:Bx Y R (oV s p c):=r.grown a o;have j:Own Y (R+1) 9 1 encStr (.slice c.na c.nn c.nc) n.names:=(h.n.2.1.below d rfl).grown a (λg a=>q g a);obtain⟨⟨u,x,y,z,A,B⟩,_,_⟩:=h.n;have E:Same (iX R c) X Y:=⟨a.os,a.tape,a.output,a.size,λi F K=>a.block i K (λe=>F.2.2 e.symm)⟩;refine⟨⟨?_,⟨⟨u,x,y,z,A,by simp[B]⟩,?_,?_⟩,h.d,h.le,h.lim⟩,((Same.of_below d (λ_ _ h=>h)).tr E).tr (Same.setCell _ _ _ _ (λe=>e.1 rfl)),λ_ h=> .inl h,?_⟩
 .exact t.aX 5 ak _
 .exact j.block λg a=>Below.heap_setCell _ _ _ _ (by have:=(j.lt g a).1;simp;omega)
 .exact f.block λg a=>Below.heap_setCell _ _ _ _ (by have:=(f.lt g a).1;simp;omega)
 .intro g k
  rcases m with e|e
  .exact .inl (e▸k)
  .right
   have:some g=some X.1.size:=k.symm.trans e;injection this with this;omega
theorem GN (w:World)(h:dL w R s p l c n)(u:Lib.Utf8Tabs 7 8 w)(hl:n.names.length<=1000):
  Calls L 98 #[.pointer (some ⟨R,0,J⟩)] w (dA R s c w (λ_:Unit=> .tuple #[]) (match bU l with| .error x=> .error x| .ok (m,r)=> .ok ((),addN n m,r))):=by
 obtain⟨X,q⟩:=kP ((match bU l with| .error x=> .error x| .ok (m,r)=> .ok ((),addN n m,r)):Except Er (Unit × aK × Bs));rw[<-q];have P:Hid (∀a b,(∃(r:Bs)(m:Int),bU l= .error (r,m)/\a=lS (s.length - r.length) m/\Same (iX R c) w.drew b)->dA R s c w (λ_:Unit=> .tuple #[]) X (.panicked a) b):=D (by
  rintro a b ⟨r,m,Q,rfl,d⟩;rw[q,Q];exact⟨rfl,d.os,d.tape,d.output,d.size,d.block⟩)
 have S:=D q;have T:=D (λW (v:Below w.1.size w W)=>AL W (h.below v) (U u v));obtain⟨i,z,y⟩:=mQ;have f:=D y;have Y:=D h;have A:Hid (Below w.1.size w w.drew):=D ((G _ _).drew);have Z:Hid ((Value.slice c.na c.nn c.nc).ownBlock≠some R):=D (h.n.2.1.far' (.inl ah));have α:=h.n.1.2.2.2.2.1;have β:Hid (n.names.length+1=c.nn+1):=D ah;have γ:Hid ((c.nn+1)*16<=140737488355328):=D ah;have δ:Hid (c.nn+1<=maxLen):=D (by unfold maxLen;omega);clear α;clear h u y;go_enter func98,ntmps98
 go_wp2
 apply cK 13 [(0,1),(1,1),(2,1),(3,1),(4,1),(5,0),(6,1),(7,2),(8,2),(9,2),(10,1),(11,1),(12,1),(13,2)] (λ_=>True) (λW'=>W'.cell? ⟨R,3,J⟩=some (.slice c.na c.nn c.nc)) (λa b=>∃(r:Bs)(m:Int),bU l= .error (r,m)/\a=lS (s.length - r.length) m/\Same (iX R c) w.drew b) au au (λa a1 w1 hd hr=>⟨hd,P a w1 hr⟩) (trivial) (Y.drew.c3)
 refine qL λK hK=>?_
 apply(T _ A).mono
 intro e t g
 cases j:bU l with
 |error x=>
  rw[j] at g;obtain⟨rfl,hs⟩:=g;exact⟨rfl,x.1,x.2,rfl,rfl,hs⟩
 |ok mr=>
 obtain⟨m,r⟩:=mr;rw[j] at g;obtain⟨rfl,p2,k,B⟩:=g;have o:=D k;have ε:=D B;have ζ:=D j
 apply hK _ _ ⟨O,k.c3⟩
 have η:Hid (R+1<=(t.alloc (I #[H ⟨m.toArray⟩] 9)).1.size):=D (by have:=k.x.2.2;simp;omega);clear hK K k B j;refine qL λK hK=>?_
 apply hK _ _ ⟨O,(o.below (aB (G _ _) _)).c3⟩
 clear hK K;refine aG rfl rfl (λK hK=>?_)
 apply gK _ _ 22 rfl i z 16 underlying22 f.1 f.2.1 f.2.2.1 f.2.2.2.1 f.2.2.2.2 rfl (o.n.2.1.alloc _) (some ⟨t.1.size,0,J⟩) 1 1 (c.nn+1) [m] rfl (Row.str1 t m) β γ δ η
 intro a' c' w3 θ E ι;have κ:=(o.x.keep (aB (G _ _) (I #[H ⟨m.toArray⟩] 9))).grown E Z;have F:=D (o.addN (aB (G _ _) (I #[H ⟨m.toArray⟩] 9)) a' c' θ E ι)
 apply hK _ _ ⟨O,κ.1 3⟩
 refine qM λK hK=>?_
 apply hK _ _ O
 apply eP
 go_wp2
 apply bodyPost_end (results_none rfl _ _ _) rfl
 show dA R s c w _ _ _ _;rw[S.q,ζ.q];exact⟨rfl,p2,_,F.1,(Mv.of_below A).trans (ε.trans F.2)⟩
end Yd
