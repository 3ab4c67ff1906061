import Derived.Test.YtpeojoobplpcoaaGreatDoorPF9
set_option linter.all false
set_option maxRecDepth 200000
set_option maxHeartbeats 8000000
namespace Yd
open Option renaming none->y,some->I
open Go Go.RowKit Go.Proofs Go.Maps Tryz
open Go.IntKind renaming i64->O
open Go.Obj renaming cells->G
open Go.Value renaming slice->F,int->U
open World renaming size_alloc->S
open Yd renaming hid->H
open _root_ renaming Int->J
attribute [local go_sem] Oper.semAt_some
theorem Dw {X:World}{b:Nat}{h h':HC}(hb:Bx X b (aD h)):Bx ((((((((X.setCell ⟨b,0,y⟩ h'.t.v).setCell ⟨b,1,y⟩ h'.s.v).setCell ⟨b,2,y⟩ h'.o.v).setCell ⟨b,3,y⟩ h'.p.v).setCell ⟨b,4,y⟩ h'.e.v).setCell ⟨b,5,y⟩ h'.d.v).setCell ⟨b,6,y⟩ h'.m.v).setCell ⟨b,7,y⟩ h'.w.v) b (aD h'):=by
 have:=((((((((hb).bf 0 ak h'.t.v).bf 1 ak h'.s.v).bf 2 ak h'.o.v).bf 3 ak h'.p.v).bf 4 ak h'.e.v).bf 5 ak h'.d.v).bf 6 ak h'.m.v).bf 7 ak h'.w.v
 simpa[aD] using this
theorem xA {X:World}{b:Nat}{h':HC}:Same (λi=>i≠b) X ((((((((X.setCell ⟨b,0,y⟩ h'.t.v).setCell ⟨b,1,y⟩ h'.s.v).setCell ⟨b,2,y⟩ h'.o.v).setCell ⟨b,3,y⟩ h'.p.v).setCell ⟨b,4,y⟩ h'.e.v).setCell ⟨b,5,y⟩ h'.d.v).setCell ⟨b,6,y⟩ h'.m.v).setCell ⟨b,7,y⟩ h'.w.v):=(((((((((Same.refl' X)).setTail (λhn=>hn rfl)).setTail (λhn=>hn rfl)).setTail (λhn=>hn rfl)).setTail (λhn=>hn rfl)).setTail (λhn=>hn rfl)).setTail (λhn=>hn rfl)).setTail (λhn=>hn rfl)).setTail (λhn=>hn rfl)
theorem ZW.lay {w X:World}{h:HC}{es:List EvC}{ds:List aM}{ms:List aN}{c:Cont}(o:ZW w X h es ds ms c)(h1:∀L∈c.SE,L.length<=2000000)(h2:∀L∈c.SD,L.length<=2000000)(h3:∀L∈c.SM,L.length<=2000000):
  ∃scan dn mn,Lay X w.1.size h es ds ms c.Q scan dn mn/\es.map scan=c.SE/\ds.map dn=c.SD/\ms.map mn=c.SM:=by
 obtain⟨f1,a1,b1⟩:=mq.fn (hc:=pJ) Ka (val:=EvC.val) (a:=EvC.sa) (n:=EvC.sn) (q:=EvC.sc) (λ_=>rfl) o.fe o.le (λL hL=>by have:=h1 L hL;omega);obtain⟨f2,a2,b2⟩:=mq.fn (hc:=iP) xw (val:=aM.val) (a:=aM.sa) (n:=aM.sn) (q:=aM.sc) (λ_=>rfl) o.fd o.ld (λL hL=>by have:=h2 L hL;omega);obtain⟨f3,a3,b3⟩:=mq.fn (hc:=iP) xw (val:=aN.val) (a:=aN.sa) (n:=aN.sn) (q:=aN.sc) (λ_=>rfl) o.fm o.lm (λL hL=>by have:=h3 L hL;omega);exact⟨f1,f2,f3,⟨o.oe,o.od,o.om,o.oq,a1,a2,a3,o.fe.pair,o.fd.pair,o.fm.pair,o.fx⟩,b1,b2,b3⟩
theorem qE {α β γ:Type}(f:α->β)(g:α->γ):∀l:List α,(l.map f).zip (l.map g)=l.map (λx=>(f x,g x))
 |[]=>rfl
 |x::l=>bU ((f x,g x):: ·) (qE f g l)
theorem Ip {es:List EvC}{ds:List aM}{ms:List aN}{scan:EvC->List Sn}{dn:aM->List J}{mn:aN->List J}{c:Cont}(h1:es.map EvC.base=c.E)(h2:ds.map aM.base=c.D)(h3:ms.map aN.base=c.M)(h4:es.map scan=c.SE)(h5:ds.map dn=c.SD)(h6:ms.map mn=c.SM):
  lu es ds ms c.Q scan dn mn=aY c:=by
 unfold aY lu;rw[<-h1,<-h2,<-h3,<-h4,<-h5,<-h6,qE,qE,qE,List.flatMap_map,List.flatMap_map,List.flatMap_map]
 rfl
theorem Lv (h:HC)(nl:Nat->List Bs)(es:List EvC)(ds:List aM)(ms:List aN)(qs:List Wa)(scan:EvC->List Sn)(dn:aM->List J)(mn:aN->List J)(w:World)(hg:wz w)
  (hn:∀i,i<4->Row w 1 encStr (h.nm i).a (h.nm i).n (h.nm i).c (nl i)) (hd:Deep w h es ds ms qs scan dn mn) (hB:NN nl es ds ms qs scan dn mn) (hS:jq h nl es ds ms qs scan dn mn=true)
  (C:Cont) (hC:C=zK es.length nl es ds ms qs scan dn mn) (hbare:∀e∈C.E,Hg e) (htold:∀x∈aY C,∃s:Nat,s<4/\x.1=(s:J)/\aV x.2 (C.nl s).length=true) (ac2:∀s:Nat,s<4->(cu (aY C) (s:J)).length<=300/\(C.nl s).length<=300):
  Calls Tryz.prog 48 #[bG h] w (UA w (cO C)):=by
 refine(callsIn_wide (n:=3)).1 ?_;refine callsIn_of_wp_marks func48 rfl trivial ?_ rfl;simp only[ntmps48,p8,dO,iy,Nat.reduceAdd,Nat.reduceSub,rX,rY,oz,oC,fJ,fu];refine wpIn_wide.2 ?_;have hb0:Below w.1.size w ((w.alloc (G (aD h) 29)).alloc (G #[F y 0 0,F y 0 0,F y 0 0,F y 0 0,F y 0 0,F y 0 0,F y 0 0,F y 0 0] 29)):=((Below.refl _ _).alloc (aB _) _).alloc ak _;have zR:=H (Kk h nl es ds ms qs scan dn mn _ (hg.below hb0) (λi hi=>(hn i hi).below hb0 rfl) (hd.below hb0 rfl));rw[hS] at zR;have HOWN:=H (λW (hW:Below w.1.size w W)=>(by have:=Ru h nl es ds ms qs scan dn mn W (λi hi=>(hn i hi).below hW rfl) (hd.below hW rfl) hB;rw[<-hC] at this;exact this:Calls Tryz.prog 108 #[bG h] W (NM W C)));have fQ:=H ((Bx.new w (aD h) 29).alloc (G #[F y 0 0,F y 0 0,F y 0 0,F y 0 0,F y 0 0,F y 0 0,F y 0 0,F y 0 0] 29));have hbr:=Bx.new (w.alloc (G (aD h) 29)) #[F y 0 0,F y 0 0,F y 0 0,F y 0 0,F y 0 0,F y 0 0,F y 0 0,F y 0 0] 29;rw[S] at hbr;have uH:=H hbr;have hbt:((w.alloc (G (aD h) 29)).alloc (G #[F y 0 0,F y 0 0,F y 0 0,F y 0 0,F y 0 0,F y 0 0,F y 0 0,F y 0 0] 29)).1[w.1.size]?=I (G (aD h) 29 (0,0)):=(Below.heap_alloc _ _ _ ak).trans (World.alloc_heap_new w _);have mY:=H hbt;have HB0:=H hb0;have rQ:Hid ((∀L∈C.SE,L.length<=2000000)/\(∀L∈C.SD,L.length<=2000000)/\(∀L∈C.SM,L.length<=2000000)):=H (by
  rw[hC];refine⟨λL hL=>?_,λL hL=>?_,λL hL=>?_⟩
  .obtain⟨x,hx,rfl⟩:=dI.1 hL;exact hB.2.2.2.2.2.1 x (Hq hx)
  .obtain⟨x,hx,rfl⟩:=dI.1 hL;exact hB.2.2.2.2.2.2.1 x hx
  .obtain⟨x,hx,rfl⟩:=dI.1 hL;exact hB.2.2.2.2.2.2.2 x hx)
 have SS:Hid (C.E.length<=2000000/\C.D.length<=2000000/\C.M.length<=2000000/\C.Q.length<=2000000):=H (by
  rw[hC];refine⟨?_,?_,?_,hB.2.2.2.1⟩
  .show((es.take es.length).map _).length<=_;rw[bH,fE];have:=hB.1;omega
  .show(ds.map _).length<=_;rw[bH];exact hB.2.1
  .show(ms.map _).length<=_;rw[bH];exact hB.2.2.1)
 have aks:=H hbare;have akt:=H htold;have uO:=H ac2;clear hC hS hb0 hbr hd hg hn hB hbare htold ac2 hbt;obtain⟨W0,hW0⟩:∃W,W=(w.alloc (G (aD h) 29)).alloc (G #[F y 0 0,F y 0 0,F y 0 0,F y 0 0,F y 0 0,F y 0 0,F y 0 0,F y 0 0] 29):=⟨_,rfl⟩;rw[<-hW0] at zR fQ uH HB0 mY;go_wp2_with fail;rw[<-hW0];clear hW0;refine zR.q.mono ?_;rintro e w1 ⟨rfl,hb1⟩;have HB1:=H (HB0.q.bZ hb1);have eX:=H (fQ.q.keep hb1);have HR1:=H (uH.q.keep hb1);have anH:=H ((hb1.block _ fQ.q.2.2).trans mY.q);have Ej:=eX.q.1;clear hb1;go_wp2_with fail;refine(HOWN.q w1 HB1.q).mono ?_;rintro e w2 ⟨h',es',ds',ms',rfl,SV⟩;have fw:=H (eX.q.keep SV.b);have HR2:=H (HR1.q.keep SV.b);have HB2:=H (HB1.q.trans (SV.b.mono HB1.q.size));have arq:=H ((SV.b.block _ eX.q.2.2).trans anH.q);have nJ:=H SV;have hcx:=fw.q.1;have hfx:=fw.q.2.1;have hlx:=fw.q.2.2;clear SV Ej;go_wp2_with fail;obtain⟨W3,hW3⟩:∃W,W=((((((((w2.setCell ⟨w.1.size,0,y⟩ h'.t.v).setCell ⟨w.1.size,1,y⟩ h'.s.v).setCell ⟨w.1.size,2,y⟩ h'.o.v).setCell ⟨w.1.size,3,y⟩ h'.p.v).setCell ⟨w.1.size,4,y⟩ h'.e.v).setCell ⟨w.1.size,5,y⟩ h'.d.v).setCell ⟨w.1.size,6,y⟩ h'.m.v).setCell ⟨w.1.size,7,y⟩ h'.w.v):=⟨_,rfl⟩;have SS:Hid (es'.length<=140737488355328/\ds'.length<=140737488355328/\ms'.length<=140737488355328/\C.Q.length<=140737488355328):=H (by
  have:=SS.q;have e1:es'.length=C.E.length:=by rw[<-nJ.q.be,bH]
  have e2:ds'.length=C.D.length:=by rw[<-nJ.q.bd,bH]
  have e3:ms'.length=C.M.length:=by rw[<-nJ.q.bm,bH]
  omega)
 have kZ:Hid (Bx W3 w.1.size (aD h')):=H (by rw[hW3];exact Dw fw.q);have Pg:Hid (Same (λi=>i≠w.1.size) w2 W3):=H (by rw[hW3];exact xA);rw[<-hW3];clear hW3 hcx hfx hlx;have HR3:=H (Pg.q.bx HR2.q ah);have HB3:Hid (Below w.1.size w W3):=H (Pg.q.below HB2.q (λi hi=>by omega) HB2.q.size);have Bp:Hid (w.1.size+1<W3.1.size):=H HR3.q.2.2;have agG:w.1.size+1<w1.1.size:=HR1.q.2.2;have aak:=H agG;have anI:Hid (∃mG nY uq,Lay W3 w1.1.size h' es' ds' ms' C.Q mG nY uq/\es'.map mG=C.SE/\ds'.map nY=C.SD/\ms'.map uq=C.SM):=H (by
  obtain⟨f1,f2,f3,hl,b1,b2,b3⟩:=nJ.q.lay rQ.q.1 rQ.q.2.1 rQ.q.2.2;exact⟨f1,f2,f3,hl.same (Pg.q.mono (λi hi _=>by omega)),b1,b2,b3⟩)
 have zS:Hid (∀q,q<4->Own W3 w1.1.size 9 1 encStr (h'.nm q).v (C.nl q)):=H (λq hq=>(nJ.q.on q hq).same Pg.q (λg hg e=>by have:=((nJ.q.on q hq).lt g hg).1;omega));clear agG;refine(lF h' W3).mono ?_;rintro e w4 ⟨rfl,hb4⟩;have ig:=H hb4;clear hb4;have hmm:= @run_makeMap Tryz.prog
 go_wp2_with (go_at_call 43;refine(MC _ _).mono ?_;rintro e w' ⟨rfl,rfl⟩)
 clear hmm;have vE:(((((w4.alloc (G #[h'.t.v,h'.s.v,h'.o.v,h'.p.v] 74)).alloc (G #[F y 0 0,F y 0 0,F y 0 0,F y 0 0] 74)).alloc (.map #[] 0)).alloc (G #[.map (I (w4.1.size+2))] 149)).alloc (G #[.pointer (I ⟨w.1.size,0,y⟩)] 108)).1.size=w4.1.size+5:=by simp
 have E5:Below w4.1.size w4 (((((w4.alloc (G #[h'.t.v,h'.s.v,h'.o.v,h'.p.v] 74)).alloc (G #[F y 0 0,F y 0 0,F y 0 0,F y 0 0] 74)).alloc (.map #[] 0)).alloc (G #[.map (I (w4.1.size+2))] 149)).alloc (G #[.pointer (I ⟨w.1.size,0,y⟩)] 108)):=((((Below.refl _ _).alloc (aB _) _).alloc ak _).alloc (by simp;omega) _).alloc (by simp;omega) _|>.alloc (by simp;omega) _;have hVW:Bx (((((w4.alloc (G #[h'.t.v,h'.s.v,h'.o.v,h'.p.v] 74)).alloc (G #[F y 0 0,F y 0 0,F y 0 0,F y 0 0] 74)).alloc (.map #[] 0)).alloc (G #[.map (I (w4.1.size+2))] 149)).alloc (G #[.pointer (I ⟨w.1.size,0,y⟩)] 108)) w4.1.size #[h'.t.v,h'.s.v,h'.o.v,h'.p.v]:=((((Bx.new w4 _ _).alloc _).alloc _).alloc _).alloc _;have hVA:Bx (((((w4.alloc (G #[h'.t.v,h'.s.v,h'.o.v,h'.p.v] 74)).alloc (G #[F y 0 0,F y 0 0,F y 0 0,F y 0 0] 74)).alloc (.map #[] 0)).alloc (G #[.map (I (w4.1.size+2))] 149)).alloc (G #[.pointer (I ⟨w.1.size,0,y⟩)] 108)) (w4.1.size+1) (xu λ_=>⟨y,0,0⟩):=by
  have:=(((Bx.new (w4.alloc (G #[h'.t.v,h'.s.v,h'.o.v,h'.p.v] 74)) #[F y 0 0,F y 0 0,F y 0 0,F y 0 0] 74).alloc (.map #[] 0)).alloc (G #[.map (I (w4.1.size+2))] 149)).alloc (G #[.pointer (I ⟨w.1.size,0,y⟩)] 108);rw[S] at this;exact this
 have Kl:Bx (((((w4.alloc (G #[h'.t.v,h'.s.v,h'.o.v,h'.p.v] 74)).alloc (G #[F y 0 0,F y 0 0,F y 0 0,F y 0 0] 74)).alloc (.map #[] 0)).alloc (G #[.map (I (w4.1.size+2))] 149)).alloc (G #[.pointer (I ⟨w.1.size,0,y⟩)] 108)) (w4.1.size+3) #[.map (I (w4.1.size+2))]:=by
  have:=(Bx.new (((w4.alloc (G #[h'.t.v,h'.s.v,h'.o.v,h'.p.v] 74)).alloc (G #[F y 0 0,F y 0 0,F y 0 0,F y 0 0] 74)).alloc (.map #[] 0)) #[.map (I (w4.1.size+2))] 149).alloc (G #[.pointer (I ⟨w.1.size,0,y⟩)] 108);rw[S,S,S] at this;exact this
 have Km:Bx (((((w4.alloc (G #[h'.t.v,h'.s.v,h'.o.v,h'.p.v] 74)).alloc (G #[F y 0 0,F y 0 0,F y 0 0,F y 0 0] 74)).alloc (.map #[] 0)).alloc (G #[.map (I (w4.1.size+2))] 149)).alloc (G #[.pointer (I ⟨w.1.size,0,y⟩)] 108)) (w4.1.size+4) #[.pointer (I ⟨w.1.size,0,y⟩)]:=by
  have:=Bx.new ((((w4.alloc (G #[h'.t.v,h'.s.v,h'.o.v,h'.p.v] 74)).alloc (G #[F y 0 0,F y 0 0,F y 0 0,F y 0 0] 74)).alloc (.map #[] 0)).alloc (G #[.map (I (w4.1.size+2))] 149)) #[.pointer (I ⟨w.1.size,0,y⟩)] 108;rw[S,S,S,S] at this;exact this
 have hVO:nP Tryz.prog 114 3 (((((w4.alloc (G #[h'.t.v,h'.s.v,h'.o.v,h'.p.v] 74)).alloc (G #[F y 0 0,F y 0 0,F y 0 0,F y 0 0] 74)).alloc (.map #[] 0)).alloc (G #[.map (I (w4.1.size+2))] 149)).alloc (G #[.pointer (I ⟨w.1.size,0,y⟩)] 108)) (w4.1.size+2) 0 (λ_ _=>y):=by
  have h0:=nP.new (P:=Tryz.prog) (k:=114) (e:=3) ((w4.alloc (G #[h'.t.v,h'.s.v,h'.o.v,h'.p.v] 74)).alloc (G #[F y 0 0,F y 0 0,F y 0 0,F y 0 0] 74));have e1:((w4.alloc (G #[h'.t.v,h'.s.v,h'.o.v,h'.p.v] 74)).alloc (G #[F y 0 0,F y 0 0,F y 0 0,F y 0 0] 74)).1.size=w4.1.size+2:=by simp
  rw[e1] at h0;exact h0.of_eq ((Below.heap_alloc _ _ _ ak).trans (Below.heap_alloc _ _ _ ak))
 have hVT:(((((w4.alloc (G #[h'.t.v,h'.s.v,h'.o.v,h'.p.v] 74)).alloc (G #[F y 0 0,F y 0 0,F y 0 0,F y 0 0] 74)).alloc (.map #[] 0)).alloc (G #[.map (I (w4.1.size+2))] 149)).alloc (G #[.pointer (I ⟨w.1.size,0,y⟩)] 108)).1[w.1.size]?=W3.1[w.1.size]?:=(E5.block _ (by have:=ig.q.size;have:=Bp.q;omega)).trans (ig.q.block _ (by have:=Bp.q;omega));revert vE E5 hVW hVA Kl Km hVO hVT;generalize((((w4.alloc (G #[h'.t.v,h'.s.v,h'.o.v,h'.p.v] 74)).alloc (G #[F y 0 0,F y 0 0,F y 0 0,F y 0 0] 74)).alloc (.map #[] 0)).alloc (G #[.map (I (w4.1.size+2))] 149)).alloc (G #[.pointer (I ⟨w.1.size,0,y⟩)] 108)=V;intro vE E5 hVW hVA Kl Km hVO hVT;obtain⟨mG,nY,uq,yO,q1,q2,q3⟩:=anI.q;have HL:=H yO;have HQ:=H (⟨q1,q2,q3⟩:_/\_/\_);have ac6:W3.1.size<=w4.1.size:=ig.q.size;have Lx:Below W3.1.size W3 V:=ig.q.trans (E5.mono ac6);have hsp:lu es' ds' ms' C.Q mG nY uq=aY C:=Ip nJ.q.be nJ.q.bd nJ.q.bm q1 q2 q3;obtain⟨xs,hxs⟩:∃xs,xs=aT h' es' ds' ms' C.Q mG nY uq:=⟨_,rfl⟩;have ac7:lW W3 xs=aY C:=by rw[hxs,<-hsp];exact yO.vals
 have F5:=H hxs;have aal:=H ac7;have anJ:Hid (∀p∈xs,∃g o,p.2=(⟨g,o,y⟩:Addr)):=H (by rw[hxs];exact qA.all _ _ _ _ _ _ _ _);have anK:Hid (∀p∈xs,∃n,W3.cell? p.2=I (U O n)):=H (by rw[hxs];exact yO.ints);have aku:Hid (∀p∈xs,FR W3 p.2.block/\w1.1.size<=p.2.block):=H (by rw[hxs];exact λp hp=>yO.soft hp);have anL:Hid ((xs.map Prod.snd).Nodup):=H (by rw[hxs];exact yO.nodup);have akv:Hid (Deep W3 h' es' ds' ms' C.Q mG nY uq):=H ⟨(show Own W3 w1.1.size 50 9 eB (F h'.e.a h'.e.n h'.e.c) es' from yO.oe).row (hc:=rA) SS.q.1,(show Own W3 w1.1.size 79 2 fB (F h'.d.a h'.d.n h'.d.c) ds' from yO.od).row (hc:=rC) SS.q.2.1,(show Own W3 w1.1.size 84 4 fD (F h'.m.a h'.m.n h'.m.c) ms' from yO.om).row (hc:=rD) SS.q.2.2.1,(show Own W3 w1.1.size 88 2 gH (F h'.w.a h'.w.n h'.w.c) C.Q from yO.oq).row (hc:=sQ) SS.q.2.2.2,
  λx hx=>(show Own W3 w1.1.size 98 3 dV (F x.sa x.sn x.sc) (mG x) from yO.se x hx).row (hc:=pJ) (by have:=rQ.q.1 (mG x) (by rw[<-q1];exact oH hx);omega),
  λx hx=>(show Own W3 w1.1.size 3 1 aX (F x.sa x.sn x.sc) (nY x) from yO.sd x hx).row (hc:=iP) (by have:=rQ.q.2.1 (nY x) (by rw[<-q2];exact oH hx);omega),
  λx hx=>(show Own W3 w1.1.size 3 1 aX (F x.sa x.sn x.sc) (uq x) from yO.sm x hx).row (hc:=iP) (by have:=rQ.q.2.2 (uq x) (by rw[<-q3];exact oH hx);omega)⟩
 have hI0:NI w W3 (V.1.size+5) w4.1.size (w4.1.size+1) (w4.1.size+3) (w4.1.size+2) h' C.nl (cu (aY C)) xs [] V:=
  ⟨λp hp=>(by cases hp),HB3.q.bZ Lx,Moved.start (Same.of_below Lx (λi hi _=>hi)),kZ.q.keep Lx,HR3.q.keep Lx,hVW,⟨λ_=>⟨y,0,0⟩,hVA,λs _=>Own.jY _ _ _ _ _,λ_ _ _ _ _ g hg=>by cases hg⟩,Kl,hVO⟩
 have HI0:=H hI0;have E8:=H vE;have z8:=H ac6;have anM:=H Lx;have HVP:=H Km;clear hI0 E5 hVW hVA Kl Km hVO hVT Lx q1 q2 q3 yO hsp hxs ac7;refine wpIn_wide.1 (UE (n:=3) (gf:=84) (lb:=#[.pointer (I ⟨w4.1.size+4,0,y⟩)]) (by simp[go_sem]) F6
  (qP:=NQ) (k:=3) (D:=λi=>i=w.1.size\/i=w4.1.size+4\/(V.1.size+2<=i/\i<V.1.size+5)) (R:=sW (λa=>∃g j,a=(⟨g,j,y⟩:Addr)/\∀s,(s,a)∉xs) W3) (xs:=xs)
  (λW hW hWs=>by
   have e:=F5.q;have aam:Below W3.1.size W3 W:=anM.q.bZ hW;rw[e];exact F7 h' es' ds' ms' C.Q mG nY uq w.1.size (w4.1.size+4) _ _ W3 W akv.q (kZ.q.keep aam) (HVP.q.keep hW) (λa v _ hc=>bn aam rfl hc) aam.size (.inl rfl) (.inr (.inl rfl))
    (λb o ha k hk j hj=>⟨b,_,rfl,λs=>HL.q.aki ha hj s⟩) (λe he b o ha j hj=>⟨b,_,rfl,λs=>HL.q.jh he ha s⟩)
    (λb o ha k hk=>⟨b,_,rfl,λs=>HL.q.akj ha s⟩) (λb o ha k hk=>⟨b,_,rfl,λs=>HL.q.akk ha s⟩) (λi h1 h2=> .inr (.inr ⟨by omega,by omega⟩))) (by have:=Bp.q;omega)
  (λx args X hx=>by rw[hx];rfl)
  (NI w W3 (V.1.size+5) w4.1.size (w4.1.size+1) (w4.1.size+3) (w4.1.size+2) h' C.nl (cu (aY C)) xs)
  (λ_ _ _=>False)
  (λpre X Y hh k=>hh.same (V:=V.1.size) (k.mono (λi hi _=>by omega)) (aB _) ah (by have:=Bp.q;omega) ah ah ah ah)
  (λc pre X Y hh k=>hh)
  (λpre X hh a v hC hc=>by
   obtain⟨g,j,rfl,hno⟩:=hC;exact hh.m.cell hc (λs hs=>hno s (hh.sub _ hs)))
  (λc pre X hh=>hh.elim)
  HI0.q ?round ?done ?stop)
 case stop=>
  intro c pre X _ hh;exact hh.elim
 case round=>
  rintro pre ⟨x1,a0⟩ args X hI hpre rfl hsz m;have hmem:(x1,a0)∈xs:=hpre.subset ak;obtain⟨b,o,ha0⟩:=anJ.q _ hmem;simp only at ha0;subst ha0;obtain⟨n,hn0⟩:=anK.q _ hmem;simp only at hn0;have hval:iF W3 (x1,⟨b,o,y⟩)=(x1,n):=by unfold iF;rw[kX hn0]
  have htm:(x1,n)∈aY C:=by rw[<-aal.q,<-hval];exact oH hmem
  obtain⟨s,hs4,hs1,hs2⟩:=akt.q _ htm;simp only at hs1 hs2;subst hs1;obtain⟨k,rfl,hk⟩:=Bd hs2;have hnot:∀s',(s',(⟨b,o,y⟩:Addr))∉pre:=λs' hs'=>by
   obtain⟨t,ht⟩:=hpre;have hnd:=anL.q;rw[<-ht,eU,eU] at hnd;have:=(zk.1 (zk.1 hnd).1).2.2 _ (oH hs') _ (oH (bT.2 rfl));exact this rfl
  have hpv:lW W3 (pre++[((s:J),(⟨b,o,y⟩:Addr))])=lW W3 pre++[((s:J),(k:J))]:=by unfold lW;rw[eU,vv,hval]
  have hpf:lW W3 pre++[((s:J),(k:J))]<+:aY C:=by rw[<-hpv,<-aal.q];exact hpre.map _
  have HPV:=H hpv;have Aa:=H (Z8 hpre);have HSF:=H (aku.q _ hmem);have anN:=H hmem;have tO:=H hn0;have aan:=H hnot;have HK:=H hk;have HPF:=H hpf;clear hval htm hs2 hmem hpre hn0 hnot hpv hpf hk
  gi_wp2
  refine⟨Below.refl _ _,λX2 hk2=>?_⟩;have hI2:=hI.same (V:=V.1.size) (hk2.mono (λi hi _=>by omega)) (aB _) (by have:=z8.q;omega) (by have:=Bp.q;have:=z8.q;omega) ah ah ah ah;have hz2:V.1.size+5<=X2.1.size:=by have:=hk2.size;omega
  have hc2:=hI2.m.cell tO.q aan.q;have hf2:=(hI2.m.soft HSF.q.1).frozen (j:=o);have hbl:b<W3.1.size:=by obtain⟨cs,T,e⟩:=HSF.q.1;exact(dh.1 e).1
  have yg:=H (⟨hbl,HSF.q.2⟩:b<W3.1.size/\w1.1.size<=b);obtain⟨⟨na,nn,nc⟩,hns⟩:∃z:Sl,z=h'.nm s:=⟨_,rfl⟩;have hrow:=(show Own X2 w1.1.size 9 1 encStr (F (h'.nm s).a (h'.nm s).n (h'.nm s).c) (C.nl s) from Rv HL.q (λp hp=>by rw[<-F5.q];exact hI2.sub p hp) hI2.m (zS.q s hs4)).row (hc:=ku) (by have:=(uO.q s hs4).2;omega);have hcw:X2.cell? ⟨w4.1.size,s,y⟩=I (h'.nm s).v:=(hI2.ws.1 s).trans (sF h'.nm hs4);rw[<-hns] at hrow hcw;simp only at hrow;obtain⟨nm,gb,go,hnm,hab,hcn⟩:=hrow.at_ (i:=k) (by rw[<-hrow.len];exact HK.q);subst hab;have hkn:k<nn:=by rw[<-hrow.len];exact HK.q
  have HNS:=H hns;clear hns;obtain⟨sl,vF,hown,hap⟩:=hI2.wa;have hca:X2.cell? ⟨w4.1.size+1,s,y⟩=I (sl s).v:=(vF.1 s).trans (sF sl hs4);have hcm:=hI2.mv.1 0;have agJ:(Lit.int O (s:J)).wf=true:=WalkArith.wf_i64 ah;have hkl:k<300:=by have:=(uO.q s hs4).2;have:=HK.q;omega
  have agK:(Lit.int O (k:J)).wf=true:=WalkArith.wf_i64 ah;have mW:=aA (Below.refl X2.1.size X2) (G #[U O (s:J),U O (k:J)] 114);have Ph:=hI2.mp.of_eq (mW.block _ hI2.mp.lt);have hlk:(Instr.lookup 149 (.map (I (w4.1.size+1+1))) (.agg #[U O (s:J),U O (k:J)]) true).run Tryz.prog (X2.alloc (G #[U O (s:J),U O (k:J)] 114))= .ok (.tuple #[U O ((EY (lW W3 pre) (s:J) (k:J)).getD 0),.bool (EY (lW W3 pre) (s:J) (k:J)).isSome]) (X2.alloc (G #[U O (s:J),U O (k:J)] 114)):=Ph.ags Xf underlying149 underlying3 (aew _) (Xg agJ agK);have hcm1:((X2.alloc (G #[U O (s:J),U O (k:J)] 114))).cell? ⟨w4.1.size+1+1+1,0,y⟩=I (.map (I (w4.1.size+1+1))):=bn mW rfl hcm;have hcA:=(Bx.new X2 #[U O (s:J),U O (k:J)] 114).1;have ars:=hcA 0;have aru:=hcA 1;have hfb:((X2.alloc (G #[U O (s:J),U O (k:J)] 114))).cell? ⟨b,o,y⟩=I (U O (k:J)):=bn mW rfl hc2;have hff:((X2.alloc (G #[U O (s:J),U O (k:J)] 114))).frozen? ⟨b,o,y⟩=false:=(World.frozen?_of_block (a:=⟨b,o,y⟩) (mW.block b (by have:=ig.q.size;omega))).trans hf2;have HI2:=H hI2;by_cases hin:(k:J)∈cu (lW W3 pre) (s:J)
  .have hno:EY (lW W3 pre) (s:J) (k:J)=I ((cu (lW W3 pre) (s:J)).idxOf (k:J):J):=av hin
   rw[hno] at hlk;simp only[Option.getD_some,Option.isSome_some] at hlk;obtain⟨q,hq⟩:∃q:Nat,q=(cu (lW W3 pre) (s:J)).idxOf (k:J):=⟨_,rfl⟩;rw[<-hq] at hlk;have HQQ:=H hq;have E9:=H hin;clear hno hq hin hrow hcn hnm hown hap vF Ph hI2 hI hcA hcm hca hcw;have Pj:=HI2.q.same (V:=V.1.size) (Same.of_below mW (λi hi hl=>hl)) (aB _) (by have:=z8.q;omega) (by have:=Bp.q;have:=z8.q;omega) ah ah ah ah;rw[vE] at Pj;have Am:=H Pj;have kI:=H mW;have HV:Hid ((q:J)=dZ (cu (aY C) (s:J)) (k:J)):=H (by rw[LA (AX _ ((eG _ _).trans HPF.q)) E9.q,HQQ.q]);clear Pj mW
   gi_wp2
   have hb1:=yg.q.1;have hb2:=yg.q.2;have hb3:=z8.q;have hb4:=aak.q;refine⟨⟨(Below.heap_setCell _ _ _ _ (by simp;omega)).trans (kI.q.block _ ah),(Below.heap_setCell _ _ _ _ (by simp;omega)).trans (kI.q.block _ ah)⟩,?_,?_⟩
   .exact(aQ.of_below kI.q (λi _ hi=>hi)).trans (aQ.setCell _ b o _ ah)
   .exact NI.fin Aa.q Am.q.b Am.q.m Am.q.bx Am.q.r Am.q.ws (by rw[HPV.q,FQ E9.q];exact Am.q.wa) Am.q.mv (by rw[HPV.q,Uz E9.q,Xi E9.q];exact Am.q.mp) aan.q tO.q HV.q ah ah ah ah ah ah
  .have hno:EY (lW W3 pre) (s:J) (k:J)=y:=au hin
   rw[hno] at hlk;simp only[Option.getD_none,Option.isSome_none] at hlk;obtain⟨⟨sa,sn,sc⟩,hsl⟩:∃z,z=sl s:=⟨_,rfl⟩;have hown0:=hown s hs4;rw[<-hsl] at hown0 hca;have hsn:sn=(cu (lW W3 pre) (s:J)).length:=by
    obtain⟨_,_,q,_⟩:=hown0.shape;simp only[Sl.v,Value.slice.injEq] at q;rw[q.2.1,bH]
   have agL:sn<=300:=by rw[hsn];exact bX (AX _ ((eG _ _).trans HPF.q)).length_le (uO.q s hs4).1
   have hwfn:(Lit.int O (sn:J)).wf=true:=WalkArith.wf_i64 ah;have hFN:CU (lW W3 pre)<=1200:=by
    have e:∀q:Nat,q<4->(cu (lW W3 pre) (q:J)).length<=300:=λq hq=>bX (AX _ ((eG _ _).trans HPF.q)).length_le (uO.q q hq).1
    have e0:=e 0 ah;have e1:=e 1 ah;have e2:=e 2 ah;have e3:=e 3 ah;unfold CU;exact bX (Nat.add_le_add (Nat.add_le_add (Nat.add_le_add e0 e1) e2) e3) ah
   obtain⟨W5,agM,UF,hg5⟩:=Ph.put Xf underlying149 underlying3 (by unfold maxLen;omega) (Xg agJ agK) hwfn;have aq8:(Instr.mapUpdate 149 (.map (I (w4.1.size+1+1))) (.agg #[U O (s:J),U O (k:J)]) (U O (sn:J))).run Tryz.prog (X2.alloc (G #[U O (s:J),U O (k:J)] 114))= .ok () W5:=agM;rw[hsn,<-aey hin,<-Z7 hs4 hin] at UF;have Pj:=HI2.q.same (V:=V.1.size) (Same.of_below mW (λi hi hl=>hl)) (aB _) (by have:=z8.q;omega) (by have:=Bp.q;have:=z8.q;omega) ah ah ah ah;have hs5:Same (λi=>i≠w4.1.size+2) (X2.alloc (G #[U O (s:J),U O (k:J)] 114)) W5:=⟨hg5.os,hg5.tape,hg5.output,hg5.size,λi hi hl=>hg5.block i hl (λe=>hi (by injection e))⟩;rw[vE] at Pj hown0;have hmN:W5.1[w4.1.size+2]?≠y:=by have:=UF.lt;simp;omega
   have hown5:Own W5 (w4.1.size+5+5) 9 1 encStr (F sa sn sc) ((cu (lW W3 pre) (s:J)).map (aK (C.nl s))):=(hown0.below mW rfl).same hs5 (λg hg e=>by have:=(hown0.lt g hg).1;omega);have agN:W5.cell? ⟨w4.1.size+1,s,y⟩=I (F sa sn sc):=hs5.bP (bn mW rfl hca) ah;have agO:W5.cell? ⟨w4.1.size,s,y⟩=I (F (I ⟨gb,go,y⟩) nn nc):=hs5.bP (bn mW rfl hcw) ah;have hb1:=yg.q.1;have hb2:=yg.q.2;have hb3:=z8.q;have hb4:=aak.q;have agP:W5.cell? ⟨b,o,y⟩=I (U O (k:J)):=hs5.bP hfb ah;have aao:X2.cell? ⟨gb,go+k,y⟩=I (.string ⟨nm.toArray⟩):=by have:=hcn 0 _ rfl;simpa using this
   have agQ:W5.cell? ⟨gb,go+k,y⟩=I (.string ⟨nm.toArray⟩):=hs5.bP (bn mW rfl aao) (λe=>by
    obtain⟨q,clk,hq⟩:=Ph.obj;have:=bn mW rfl aao;rw[e] at this;unfold World.cell? at this;simp[hq] at this)
   have NR:=H hown5;have Am:=H Pj;have vK:=H hs5;have aap:=H UF;have kI:=H mW;have Ao:=H hnm;have E9:=H hin;have Dn:=H hsn;have HSL:=H hsl;have NS:=H hown;have HWA:=H vF;have agR:=H agL;have yC:=H hap;have arv:(X2.alloc (G #[U O (s:J),U O (k:J)] 114)).cell? ⟨w4.1.size+1,s,y⟩=I (F sa sn sc):=bn mW rfl hca;have kF:=H (⟨agN,agO,agP,agQ⟩:_/\_/\_/\_);have HGB:Hid ((Value.slice sa sn sc).ownBlock≠I gb):=H (λe=>by have h1:=(hown0.lt _ e).1;have h2:=((zS.q s hs4).lt gb (by rw[<-HNS.q];rfl)).2;omega);have hk0:(0:J)<=(k:J):=D6 _;have hkn2:(k:J)<(nn:J):=by omega
   have arw:(s:J)<4:=by omega
   obtain⟨i,z,hi,hz,hsize,dx,hzs⟩:=nL;have HI:=H (⟨hi,hz,hsize,dx,hzs⟩:_/\_/\_/\_/\_);have HLEN:Hid (((cu (lW W3 pre) (s:J)).map (aK (C.nl s))).length+1=sn+1):=H (by rw[bH,<-hsn]);have HWF:Hid (Bx W5 (w4.1.size+1) (xu sl)):=H (hs5.bx (vF.keep mW) ah);have HFZ:Hid (W5.frozen? ⟨b,o,y⟩=false):=H ((World.frozen?_of_block (a:=⟨b,o,y⟩) (hs5.block b ah (by have:=mW.size;omega))).trans hff);clear hown5 Pj hs5 UF mW hnm hin hsn hsl hown vF agL hap hno agN agO agP agQ aao hcn hrow hown0 Ph hg5 agM hI2 hI hca hcw hcm hi hz hsize dx hzs hFN hwfn hcA hmN
   gi_wp2
   refine pQ 15 [(0,0),(1,0),(2,0),(3,0),(4,0),(5,0),(6,0),(7,0),(8,0),(9,0),(10,0),(11,0),(12,2),(13,2),(14,0),(15,2)] (λ_=>True) (λW'=>W'.cell? ⟨w4.1.size+1,s,y⟩=I (F sa sn sc)/\W'.cell? ⟨w4.1.size,s,y⟩=I (F (I ⟨gb,go,y⟩) nn nc)/\W'.cell? ⟨b,o,y⟩=I (U O (k:J))/\W'.cell? ⟨gb,go+k,y⟩=I (.string ⟨nm.toArray⟩)) ay ay ay (trivial) (kF.q) ?_;refine qC ?_;refine aF rfl rfl (λK hK=>?_);go_simp;have hb6:Below W5.1.size W5 (W5.alloc (G #[.string ⟨nm.toArray⟩] 9)).drew:=(aA (Below.refl W5.1.size W5) (G #[.string ⟨nm.toArray⟩] 9)).drew;have yF:=H hb6;refine hK _ _ ⟨trivial,bn hb6 rfl kF.q.1,bn hb6 rfl kF.q.2.1,bn hb6 rfl kF.q.2.2.1,bn hb6 rfl kF.q.2.2.2⟩ ?_;clear hK K hb6;refine aF rfl rfl (λK hK=>?_);refine lX _ _ 23 rfl i z 16 underlying23 HI.q.1 HI.q.2.1 HI.q.2.2.1 HI.q.2.2.2.1 HI.q.2.2.2.2 rfl (NR.q.below yF.q rfl) (I ⟨W5.1.size,0,y⟩) 1 1 (sn+1) [nm] rfl (Row.str1 W5 nm) HLEN.q (by have:=agR.q;omega) (by have:=agR.q;unfold maxLen;omega) (bX (by have:=vK.q.size;have:=kI.q.size;omega) yF.q.size) ?_;intro a' c' W9 uw j3 Bq;have Pk:Hid (∀g,(Value.slice sa sn sc).ownBlock=I g->w4.1.size+5+5<=g):=H (λg hg=>(NR.q.lt g hg).1);have hw9:Bx W9 (w4.1.size+1) (xu sl):=(HWF.q.keep yF.q).grown j3 (λe=>by have:=Pk.q _ e;omega);have Kn:W9.cell? ⟨w4.1.size+1,s,y⟩=I (F sa sn sc):=(hw9.1 s).trans (by rw[sF sl hs4,<-HSL.q]);have MF:∀g j v,W5.cell? ⟨g,j,y⟩=I v->(Value.slice sa sn sc).ownBlock≠I g->W9.cell? ⟨g,j,y⟩=I v:=λg j v hc hne=>(World.cell?_of_block (a:=⟨g,j,y⟩) (j3.block g (bM (dR hc) yF.q.size) (λe=>hne e.symm))).trans (bn yF.q rfl hc)
   have HW9:=H hw9;have Dx:=H uw;have lY:=H j3;have aaq:=H Bq;refine hK _ _ ⟨trivial,Kn,MF _ _ _ kF.q.2.1 (λe=>by have:=Pk.q _ e;omega),MF _ _ _ kF.q.2.2.1 (λe=>by have:=Pk.q _ e;omega),MF _ _ _ kF.q.2.2.2 (λe=>HGB.q e)⟩ ?_;have Xp:=hw9.2.1 s;have arx:W9.frozen? ⟨b,o,y⟩=false:=(World.frozen?_of_block (a:=⟨b,o,y⟩) (j3.block b (by have:=yF.q.size;have:=vK.q.size;have:=kI.q.size;omega) (λe=>by have:=Pk.q _ e.symm;omega))).trans ((World.frozen?_of_block (a:=⟨b,o,y⟩) (yF.q.block b (by have:=vK.q.size;have:=kI.q.size;omega))).trans HFZ.q);have arz:=MF _ _ _ kF.q.2.2.1 (λe=>by have:=Pk.q _ e;omega);clear hK K uw j3 Bq MF hw9;refine qC ?_;refine bC rfl rfl rfl (λK hK=>?_);go_simp;refine hK _ _ trivial ?_;clear hK K;refine aP ?_
   gi_wp2
   have hxw:=HW9.q.akm hs4 ⟨a',sn+1,c'⟩;have hsG:Same (λi=>i≠w4.1.size+2/\i≠w4.1.size+1/\(Value.slice sa sn sc).ownBlock≠I i) (X2.alloc (G #[U O (s:J),U O (k:J)] 114)) (W9.setCell ⟨w4.1.size+1,s,y⟩ (F a' (sn+1) c')):=
    (((vK.q.mono (λi hi _=>hi.1)).tr (Same.of_below yF.q (λi _ hl=>hl))).tr ⟨lY.q.os,lY.q.tape,lY.q.output,lY.q.size,λi hi hl=>lY.q.block i hl (λe=>hi.2.2 e.symm)⟩).setTail (λhh=>hh.2.1 rfl)
   have rR:Same (λi=>i<w4.1.size+5+5/\i≠w4.1.size+2/\i≠w4.1.size+1) (X2.alloc (G #[U O (s:J),U O (k:J)] 114)) (W9.setCell ⟨w4.1.size+1,s,y⟩ (F a' (sn+1) c')):=
    hsG.mono (λi hi _=>⟨hi.2.1,hi.2.2,λe=>by have:=(NR.q.lt i e).1;have:=hi.1;omega⟩)
   have Pm:∀g,(Value.slice sa sn sc).ownBlock=I g->w4.1.size+5+5<=g:=λg hg=>(NR.q.lt g hg).1
   have anO:(W9.setCell ⟨w4.1.size+1,s,y⟩ (F a' (sn+1) c')).1[w4.1.size+2]?=W5.1[w4.1.size+2]?:=(Below.heap_setCell _ _ _ _ ak).trans ((lY.q.block _ (by have:=aap.q.lt;have:=yF.q.size;omega) (λe=>by have:=Pm _ e.symm;omega)).trans (yF.q.block _ aap.q.lt));have anP:nm=aK (C.nl s) (k:J):=by rw[qK _ HK.q];exact((bO.1 Ao.q).2).symm
   have HV:Hid ((sn:J)=dZ (cu (aY C) (s:J)) (k:J)):=H (by rw[Dn.q];refine(SX ?_ E9.q).symm;have:=AX (s:J) HPF.q;rw[yM E9.q,av rfl] at this;exact this);have hn5:∀q,q<4->q≠s->∀g,(sl q).v.ownBlock=I g->(Value.slice sa sn sc).ownBlock≠I g:=λq hq Dy g hg=>by
    have:=yC.q q s hq hs4 Dy g hg;rw[<-HSL.q] at this;exact this
   refine⟨⟨?_,?_⟩,?_,?_⟩
   .exact(Below.heap_setCell _ _ _ _ (by show w4.1.size+5≠b;omega)).trans ((rR.block _ ⟨by omega,by omega,by omega⟩ (by have:=kI.q.size;omega)).trans (kI.q.block _ ah))
   .exact(Below.heap_setCell _ _ _ _ (by show w4.1.size+5+1≠b;omega)).trans ((rR.block _ ⟨by omega,by omega,by omega⟩ (by have:=kI.q.size;omega)).trans (kI.q.block _ ah))
   .refine(aQ.of_below kI.q (λi _ hi=>hi)).trans ((aQ.trans (B:=W9.setCell ⟨w4.1.size+1,s,y⟩ (F a' (sn+1) c')) ⟨rR.size,λi hi hl=>rR.block i ⟨?_,?_,?_⟩ hl⟩ (aQ.setCell _ b o _ ah))) <;> omega
   .refine NI.fin Aa.q (rR.below Am.q.b (λi hi=>⟨by omega,by omega,by omega⟩) Am.q.b.size) (Am.q.m.same (rR.mono (λi hi _=>⟨by omega,by omega,by omega⟩))) (rR.bx Am.q.bx ⟨by omega,by omega,by omega⟩) (rR.bx Am.q.r ⟨by omega,by omega,by omega⟩) (rR.bx Am.q.ws ⟨by omega,by omega,by omega⟩) ⟨_,hxw,?_,?_⟩ (rR.bx Am.q.mv ⟨by omega,by omega,by omega⟩) ?_ aan.q tO.q HV.q ah ah ah ah ah ah
    .intro q hq4
     rw[HPV.q,yM E9.q];by_cases Dy:q=s
     .subst Dy
      rw[av rfl,av rfl,eU,vv,<-anP];refine Dx.q.same (Same.setTail (A:=λi=>i≠w4.1.size+1) (Same.refl' _) (λhh=>hh rfl)) (λg hg=>?_);have:=(Dx.q.lt g hg).1;omega
     .rw[au Dy,au ah]
      have hO:=NS.q q hq4;rw[E8.q] at hO;refine(hO.below kI.q rfl).same hsG (λg hg=>⟨?_,?_,hn5 q hq4 Dy g hg⟩) <;> have:=(hO.lt g hg).1 <;> omega
    .have hnew:∀q,q<4->q≠s->∀g,(Value.slice a' (sn+1) c').ownBlock=I g->(sl q).v.ownBlock≠I g:=λq hq Dy g hg e=>by
      rcases aaq.q with h1|h1
      .exact hn5 q hq Dy g e (h1.symm.trans hg)
      .rw[hg] at h1
       injection h1 with h1;have:=((NS.q q hq).lt g e).2;have:=yF.q.size;have:=vK.q.size;have:=kI.q.size;omega
     intro q q' hq hq' hne g hg
     dsimp only at hg ⊢
     by_cases h1:q=s
     .subst h1
      rw[av rfl] at hg;rw[au (λe=>hne e.symm)];exact hnew q' hq' (λe=>hne e.symm) g hg
     .rw[au h1] at hg
      by_cases h2:q'=s
      .subst h2
       rw[av rfl];exact λe=>hnew q hq h1 g e hg
      .rw[au h2]
       exact yC.q q q' hq hq' hne g hg
    .rw[HPV.q]
     exact aap.q.of_eq anO
 case done=>
  intro X hI hdef;rw[vE] at hdef;obtain⟨sl,vF,hown,hap⟩:=hI.wa;obtain⟨s0,hs0⟩:∃z,z=sl 0:=⟨_,rfl⟩;obtain⟨s1,hs1⟩:∃z,z=sl 1:=⟨_,rfl⟩;obtain⟨s2,hs2⟩:∃z,z=sl 2:=⟨_,rfl⟩;obtain⟨s3,hs3⟩:∃z,z=sl 3:=⟨_,rfl⟩;have hc0:X.cell? ⟨w4.1.size+1,0,y⟩=I s0.v:=by rw[hs0];exact vF.1 0
  have hc1:X.cell? ⟨w4.1.size+1,1,y⟩=I s1.v:=by rw[hs1];exact vF.1 1
  have hc2:X.cell? ⟨w4.1.size+1,2,y⟩=I s2.v:=by rw[hs2];exact vF.1 2
  have hc3:X.cell? ⟨w4.1.size+1,3,y⟩=I s3.v:=by rw[hs3];exact vF.1 3
  have HCC:=H (⟨hc0,hc1,hc2,hc3⟩:_/\_/\_/\_);have HXB:=H hI.bx;have HRB:=H hI.r;have Ko:=H hI;have CW:=H hdef;have NS:=H hown;have Fa:=H (⟨hs0,hs1,hs2,hs3⟩:_/\_/\_/\_);clear hc0 hc1 hc2 hc3 hI vF hown hap hdef hs0 hs1 hs2 hs3;simp only[Exit.inBlock,Exit.then]
  go_wp2
  refine aC 15 [(0,0),(1,0),(2,0),(3,0),(4,0),(5,0),(6,0),(7,0),(8,0),(9,2),(10,0),(11,2),(12,0),(13,2),(14,0),(15,2)] (λ_=>True) (λW'=>W'.cell? ⟨w4.1.size+1,0,y⟩=I s0.v/\W'.cell? ⟨w4.1.size+1,1,y⟩=I s1.v/\W'.cell? ⟨w4.1.size+1,2,y⟩=I s2.v/\W'.cell? ⟨w4.1.size+1,3,y⟩=I s3.v) ay ay (trivial) (HCC.q) ?_;refine qC ?_;refine aF rfl rfl (λK hK=>?_);go_simp;have UG:Hid (X.cell? ⟨w4.1.size+1,0,y⟩=I s0.v/\X.cell? ⟨w4.1.size+1,1,y⟩=I s1.v/\X.cell? ⟨w4.1.size+1,2,y⟩=I s2.v/\X.cell? ⟨w4.1.size+1,3,y⟩=I s3.v):=HCC;have hbx:=HXB.q;have hcx:=HXB.q.1;have hfx:=HXB.q.2.1;have hlx:=HXB.q.2.2;go_simp;have hne:w4.1.size+1≠w.1.size:=by have:=z8.q;have:=Bp.q;omega
  have Pn:=H (show _/\_/\_/\_ from⟨bV (o':=0) (u:=s0.v) UG.q.1 hne,bV (o':=0) (u:=s0.v) UG.q.2.1 hne,bV (o':=0) (u:=s0.v) UG.q.2.2.1 hne,bV (o':=0) (u:=s0.v) UG.q.2.2.2 hne⟩);refine hK _ _ ⟨trivial,Pn.q⟩ ?_;clear hne;have anQ:=H (hbx.bf 0 ak s0.v);clear hK K hbx hcx hfx hlx;refine qC ?_;refine aF rfl rfl (λK hK=>?_);go_simp;have hbx:=anQ.q;have hcx:=HXB.q.1;have hfx:=HXB.q.2.1;have hlx:=HXB.q.2.2;go_simp;have hne:w4.1.size+1≠w.1.size:=by have:=z8.q;have:=Bp.q;omega
  have Po:=H (show _/\_/\_/\_ from⟨bV (o':=1) (u:=s1.v) Pn.q.1 hne,bV (o':=1) (u:=s1.v) Pn.q.2.1 hne,bV (o':=1) (u:=s1.v) Pn.q.2.2.1 hne,bV (o':=1) (u:=s1.v) Pn.q.2.2.2 hne⟩);refine hK _ _ ⟨trivial,Po.q⟩ ?_;clear hne;have anR:=H (hbx.bf 1 ak s1.v);clear hK K hbx hcx hfx hlx;refine qC ?_;refine aF rfl rfl (λK hK=>?_);go_simp;have hbx:=anR.q;have hcx:=HXB.q.1;have hfx:=HXB.q.2.1;have hlx:=HXB.q.2.2;go_simp;have hne:w4.1.size+1≠w.1.size:=by have:=z8.q;have:=Bp.q;omega
  have anS:=H (show _/\_/\_/\_ from⟨bV (o':=2) (u:=s2.v) Po.q.1 hne,bV (o':=2) (u:=s2.v) Po.q.2.1 hne,bV (o':=2) (u:=s2.v) Po.q.2.2.1 hne,bV (o':=2) (u:=s2.v) Po.q.2.2.2 hne⟩);refine hK _ _ ⟨trivial,anS.q⟩ ?_;clear hne;have anT:=H (hbx.bf 2 ak s2.v);clear hK K hbx hcx hfx hlx;refine qC ?_;refine bC rfl rfl rfl (λK hK=>?_);go_simp;have hbx:=anT.q;have hcx:=HXB.q.1;have hfx:=HXB.q.2.1;have hlx:=HXB.q.2.2;go_simp;refine hK _ _ trivial ?_;have anU:=H (hbx.bf 3 ak s3.v);clear hK K hbx hcx hfx hlx;refine aP ?_;have hY0:Bx ((((X.setCell ⟨w.1.size,0,y⟩ s0.v).setCell ⟨w.1.size,1,y⟩ s1.v).setCell ⟨w.1.size,2,y⟩ s2.v).setCell ⟨w.1.size,3,y⟩ s3.v).drew w.1.size (aD ⟨s0,s1,s2,s3,h'.e,h'.d,h'.m,h'.w⟩):=by
   have:=anU.q;have h2:Bx ((((X.setCell ⟨w.1.size,0,y⟩ s0.v).setCell ⟨w.1.size,1,y⟩ s1.v).setCell ⟨w.1.size,2,y⟩ s2.v).setCell ⟨w.1.size,3,y⟩ s3.v) w.1.size (aD ⟨s0,s1,s2,s3,h'.e,h'.d,h'.m,h'.w⟩):=by simpa[aD] using this
   exact h2.drew
  have Xq:Same (λi=>i≠w.1.size) X ((((X.setCell ⟨w.1.size,0,y⟩ s0.v).setCell ⟨w.1.size,1,y⟩ s1.v).setCell ⟨w.1.size,2,y⟩ s2.v).setCell ⟨w.1.size,3,y⟩ s3.v).drew:=by
   have:=((((Same.refl' X).setTail (b:=w.1.size) (o:=0) (v:=s0.v) (A:=λi=>i≠w.1.size) (λhn=>hn rfl)).setTail (b:=w.1.size) (o:=1) (v:=s1.v) (λhn=>hn rfl)).setTail (b:=w.1.size) (o:=2) (v:=s2.v) (λhn=>hn rfl)).setTail (b:=w.1.size) (o:=3) (v:=s3.v) (λhn=>hn rfl);exact this.nQ
  revert hY0 Xq;generalize((((X.setCell ⟨w.1.size,0,y⟩ s0.v).setCell ⟨w.1.size,1,y⟩ s1.v).setCell ⟨w.1.size,2,y⟩ s2.v).setCell ⟨w.1.size,3,y⟩ s3.v).drew=Y;intro hY0 Xq;have Xr:=H hY0;have qQ:=H Xq;have Xt:=Xq.bx HRB.q ah;have HRY:=H Xt;have hcy:=hY0.1;have BP:=hY0.2.1;have hly:=hY0.2.2;have hcr:=Xt.1;have hfr:=Xt.2.1;have hlr:=Xt.2.2;clear hY0 Xq Xt;go_wp2_with fail;have hz1:Bx ((((((((Y.setCell ⟨w.1.size+1,0,y⟩ s0.v).setCell ⟨w.1.size+1,1,y⟩ s1.v).setCell ⟨w.1.size+1,2,y⟩ s2.v).setCell ⟨w.1.size+1,3,y⟩ s3.v).setCell ⟨w.1.size+1,4,y⟩ h'.e.v).setCell ⟨w.1.size+1,5,y⟩ h'.d.v).setCell ⟨w.1.size+1,6,y⟩ h'.m.v).setCell ⟨w.1.size+1,7,y⟩ h'.w.v) (w.1.size+1) (aD ⟨s0,s1,s2,s3,h'.e,h'.d,h'.m,h'.w⟩):=by
   have:=(((((((HRY.q.bf 0 ak s0.v).bf 1 ak s1.v).bf 2 ak s2.v).bf 3 ak s3.v).bf 4 ak h'.e.v).bf 5 ak h'.d.v).bf 6 ak h'.m.v).bf 7 ak h'.w.v
   simpa[aD] using this
  have hz2:Same (λi=>i≠w.1.size+1) Y ((((((((Y.setCell ⟨w.1.size+1,0,y⟩ s0.v).setCell ⟨w.1.size+1,1,y⟩ s1.v).setCell ⟨w.1.size+1,2,y⟩ s2.v).setCell ⟨w.1.size+1,3,y⟩ s3.v).setCell ⟨w.1.size+1,4,y⟩ h'.e.v).setCell ⟨w.1.size+1,5,y⟩ h'.d.v).setCell ⟨w.1.size+1,6,y⟩ h'.m.v).setCell ⟨w.1.size+1,7,y⟩ h'.w.v):=xA (b:=w.1.size+1) (h':=⟨s0,s1,s2,s3,h'.e,h'.d,h'.m,h'.w⟩);revert hz1 hz2;generalize((((((((Y.setCell ⟨w.1.size+1,0,y⟩ s0.v).setCell ⟨w.1.size+1,1,y⟩ s1.v).setCell ⟨w.1.size+1,2,y⟩ s2.v).setCell ⟨w.1.size+1,3,y⟩ s3.v).setCell ⟨w.1.size+1,4,y⟩ h'.e.v).setCell ⟨w.1.size+1,5,y⟩ h'.d.v).setCell ⟨w.1.size+1,6,y⟩ h'.m.v).setCell ⟨w.1.size+1,7,y⟩ h'.w.v)=Z;intro hz1 hz2;have hs0:=Bp.q;have hs4:=z8.q;have hsw:=aak.q;have hdf:Z.1[w4.1.size+5]?=I (.deferred (I [])):=by
   have h1:=qQ.q.block (w4.1.size+5) ah (dh.1 CW.q).1;have h2:=hz2.block (w4.1.size+5) ah (by have:=qQ.q.size;have:=(dh.1 CW.q).1;omega);exact(h2.trans h1).trans CW.q
  have hp:=hz1.putObj (l:=w4.1.size+5) (.deferred y) ah;have hcp:=hp.1;have hsa:Same (λi=>w1.1.size<=i/\i≠w4.1.size+5) X (Z.putObj (w4.1.size+5) (.deferred y)):=(((qQ.q.mono (λi hi _=>by have:=hi.1;omega)).tr (hz2.mono (λi hi _=>by have:=hi.1;omega))).tr (Same.putObj (A:=λi=>w1.1.size<=i/\i≠w4.1.size+5) _ _ (λhn=>hn.2 rfl)));refine⟨by simp,.inl ⟨_,_,rfl,run_takeDeferred hdf,?_⟩⟩;have hres:=Rw (w:=w) (Y:=Z.putObj (w4.1.size+5) (.deferred y)) (sl:=sl) (N:=V.1.size+5) rfl HL.q nJ.q.be nJ.q.bd nJ.q.bm HQ.q.1 HQ.q.2.1 HQ.q.2.2 (by rw[<-F5.q];exact Ko.q.m) aks.q (λq hq=>by have:=NS.q q hq;rw[<-aal.q];exact this) (by have:=nJ.q.b.size;have:=Pg.q.size;omega) ah (λcs T fz e=>by have:=CW.q;rw[this] at e;cases e) hsa ?_ rQ.q.1 rQ.q.2.1 rQ.q.2.2;refine⟨.tuple #[bG ⟨s0,s1,s2,s3,h'.e,h'.d,h'.m,h'.w⟩,U O 0],?_,?_⟩
  .simp[results,results48,go_sem,hcp,aD]
  .rw[Fa.q.1,Fa.q.2.1,Fa.q.2.2.1,Fa.q.2.2.2]
   exact hres
  .have hq:Same (λi=>i<w.1.size) X (Z.putObj (w4.1.size+5) (.deferred y)):=((qQ.q.mono (λi hi _=>by omega)).tr (hz2.mono (λi hi _=>by omega))).tr (Same.putObj (A:=λi=>i<w.1.size) _ _ (λhn=>by omega))
   exact hq.below Ko.q.b (λi hi=>hi) Ko.q.b.size
end Yd
namespace Yd
open Go Go.RowKit Go.Proofs Go.Maps
open _root_ renaming List->a
theorem Kq {l:a Int}{m:Nat}(hn:l.Nodup)(h:∀x∈l,aV x m=true):l.length<=m:=by
 have:=List.Nodup.length_le_of_subset (l₂:=(List.range m).map (λk:Nat=>(k:Int))) hn (λx hx=>by
  obtain⟨k,rfl,hk⟩:=Bd (h x hx);exact dI.2 ⟨k,xL.2 hk,rfl⟩)
 rwa[bH,List.length_range] at this
theorem aeG {nt ns no np:Nat}{e:EvC}{l:a Sn}(h:gL nt ns no np e l=true):l.length<=40:=by
 unfold gL at h;simp only[aO,aW] at h;obtain⟨⟨⟨⟨h1,h2⟩,h3⟩,h4⟩,h5⟩:=h;by_cases hk:e.kind=4
 .unfold hasB at h4
  rw[au ah,au ah,au ah,av hk] at h4;simp only[aO,aW] at h4;exact h4.1.2
 .have:l=[]:=by
   unfold gV at h5
   split at h5
   .simp only[aO,aW] at h5;exact h5.2
   .split at h5
    .simp only[aO,aW] at h5;exact h5.2
    .simp only[aO,aW] at h5;exact h5.2
  rw[this];exact aZ _
theorem aeH {nt ns no np:Nat}{e:EvC}{l:a Sn}(h:gL nt ns no np e l=true):Hg e:=by
 unfold gL at h;simp only[aO,aW] at h;have h5:=h.2;unfold gV at h5
 split at h5
 .rename_i hk
  simp only[aO,aW] at h5;exact⟨λk=>absurd hk k,λ_=>⟨h5.1.1.1,h5.1.1.2⟩,λ_=>h5.1.2⟩
 .rename_i hk1
  split at h5
  .rename_i hk
   simp only[aO,aW] at h5;exact⟨λ_=>h5.1.1.1,λk=>absurd hk k,λ_=>h5.1.2⟩
  .rename_i hk2
   split at h5
   .rename_i hk
    simp only[aO,aW] at h5;exact⟨λ_=>h5.1.1.1,λ_=>⟨h5.1.2,h5.2⟩,λk=>absurd hk k⟩
   .simp only[aO,aW] at h5
    exact⟨λ_=>h5.1.1.1.1.1,λ_=>⟨h5.1.1.1.2,h5.1.1.2⟩,λ_=>h5.1.2⟩
theorem aeI {α β:Type}{xs:a α}{ys:a β}(h:xs.length=ys.length){x:α}(hx:x∈xs):∃y,(x,y)∈xs.zip ys:=by
 obtain⟨i,hi,rfl⟩:=Hf.1 hx;exact⟨ys[i]' ah,Hf.2 ⟨i,by rw[Ck];omega,by rw[List.getElem_zip]⟩⟩
theorem Jl {α β:Type}{xs:a α}{ys:a β}(h:xs.length=ys.length){y:β}(hy:y∈ys):∃x,(x,y)∈xs.zip ys:=by
 obtain⟨i,hi,rfl⟩:=Hf.1 hy;exact⟨xs[i]' ah,Hf.2 ⟨i,by rw[Ck];omega,by rw[List.getElem_zip]⟩⟩
theorem MG {n:Nat}{l:a Int}(h:eZ n l=true):l.length<=300:=by
 unfold eZ at h;simp only[aO,aW] at h;exact h.1
theorem gK.Kr {c:Cont}(h:gK c)(hf:aJ c):Ml c:=
 ⟨by have:=hf.2.1;omega,by have:=hf.2.2.1;omega,by have:=hf.2.2.2.1;omega,by have:=hf.2.2.2.2.1;omega,λi hi=>by have:=hf.1 i hi;have:=He i;omega,
 λL hL=>by obtain⟨x,hx⟩:=Jl h.le hL;have:=aeG (h.ev _ hx);simp only at this;omega,
 λL hL=>by obtain⟨x,hx⟩:=Jl h.ld hL;have:=MG (h.od _ hx).2;simp only at this;omega,
 λL hL=>by obtain⟨x,hx⟩:=Jl h.lm hL;have:=MG (h.ma _ hx).2.2;simp only at this;omega⟩
theorem gK.bare {c:Cont}(h:gK c):∀e∈c.E,Hg e:=λe he=>by
 obtain⟨y,hy⟩:=aeI h.le he;exact aeH (h.ev _ hy)
theorem gK.agS {c:Cont}(h:gK c)(hf:aJ c):∀s:Nat,s<4->(cu (aY c) (s:Int)).length<=300/\(c.nl s).length<=300:=λs hs=>by
 have h1:(c.nl s).length<=300:=bX (hf.1 s hs) (He s);refine⟨bX (Kq (FD _ _) (λx hx=>?_)) h1,h1⟩;obtain⟨s',h1,h2,h3⟩:=zh h _ (Ll _ hx);simp only at h2 h3;have:s=s':=by omega
 rw[this];exact h3
theorem gZ.lens {X:World}{B:Nat}{h:HC}{c:Cont}{es:a EvC}{ds:a aM}{ms:a aN}{scan:EvC->a Sn}{dn:aM->a Int}{mn:aN->a Int}(o:gZ X B h c es ds ms scan dn mn):
  h.e.n=c.E.length/\h.d.n=c.D.length/\h.m.n=c.M.length/\h.w.n=c.Q.length/\∀i,i<4->(h.nm i).n=(c.nl i).length:=by
 refine⟨?_,?_,?_,?_,λi hi=>?_⟩
 .obtain⟨_,_,q,_⟩:=o.oe.shape;simp only[Value.slice.injEq] at q;rw[<-o.be,bH];exact q.2.1
 .obtain⟨_,_,q,_⟩:=o.od.shape;simp only[Value.slice.injEq] at q;rw[<-o.bd,bH];exact q.2.1
 .obtain⟨_,_,q,_⟩:=o.om.shape;simp only[Value.slice.injEq] at q;rw[<-o.bm,bH];exact q.2.1
 .obtain⟨_,_,q,_⟩:=o.oq.shape;simp only[Value.slice.injEq] at q;exact q.2.1
 .obtain⟨_,_,q,_⟩:=(o.on i hi).shape;simp only[Value.slice.injEq] at q;exact q.2.1
theorem gZ.shaped {X:World}{B:Nat}{h:HC}{c:Cont}{es:a EvC}{ds:a aM}{ms:a aN}{scan:EvC->a Sn}{dn:aM->a Int}{mn:aN->a Int}(o:gZ X B h c es ds ms scan dn mn)(hs:gK c)(hf:aJ c):
  jq h c.nl es ds ms c.Q scan dn mn=true:=by
 obtain⟨le,ld,lm,lq,ln⟩:=o.lens;have h0:h.t.n=(c.nl 0).length:=ln 0 ah;have h1:h.s.n=(c.nl 1).length:=ln 1 ah;have h2:h.o.n=(c.nl 2).length:=ln 2 ah;have h3:h.p.n=(c.nl 3).length:=ln 3 ah;obtain⟨f1,f2,f3,f4,f5,_⟩:=hf;unfold jq;simp only[aO,fA];refine⟨⟨⟨⟨?_,λe he=>?_⟩,λx hx=>?_⟩,λx hx=>?_⟩,λx hx=>?_⟩
 .unfold sV
  simp only[aO,fA,xL];refine⟨?_,λi hi=>?_⟩
  .unfold Kg
   simp only[aO,aW];refine⟨by omega,?_⟩
   split
   .omega
   .split <;> omega
  .unfold sG qF
   simp only[aO,fA,aW];refine⟨?_,λs hs'=>(hs.nm i).2 s hs',(hs.nm i).1⟩;have:=f1 i hi;rcases(by omega:i=0\/i=1\/i=2\/i=3) with rfl|rfl|rfl|rfl <;> (unfold mD at this;simp at this;simp only[LB];omega)
 .rw[h0,h1,h2,h3]
  have hm:(e.base,scan e)∈c.E.zip c.SE:=by
   rw[<-o.be,<-o.ss,qE];exact dI.2 ⟨e,he,rfl⟩
  exact hs.ev _ hm
 .have hm:(x.base,dn x)∈c.D.zip c.SD:=by
   rw[<-o.bd,<-o.ts,qE];exact dI.2 ⟨x,hx,rfl⟩
  have:=hs.od _ hm;unfold O7;rw[h0,h2,aO];exact this
 .have hm:(x.base,mn x)∈c.M.zip c.SM:=by
   rw[<-o.bm,<-o.us,qE];exact dI.2 ⟨x,hx,rfl⟩
  have:=hs.ma _ hm;unfold O8;rw[h0,h2,h3,aO,aO];exact⟨⟨this.1,this.2.1⟩,this.2.2⟩
 .have:=hs.wa x hx
  unfold Ke;rw[h1,aO,aO,aW,aW];exact⟨⟨this.1,this.2.1⟩,this.2.2⟩
theorem RH {X:World}{B:Nat}{h:HC}{c:Cont}{es:a EvC}{ds:a aM}{ms:a aN}{scan:EvC->a Sn}{dn:aM->a Int}{mn:aN->a Int}(o:gZ X B h c es ds ms scan dn mn)(hs:gK c)(hf:aJ c)(hg:wz X):
  Calls Tryz.prog 48 #[bG h] X (UA X (cO c)):=
 Lv h c.nl es ds ms c.Q scan dn mn X hg (o.names (hs.Kr hf)) (o.deep (hs.Kr hf)) (o.bulk (hs.Kr hf)) (o.shaped hs hf) c o.cont hs.bare (zh hs) (hs.agS hf)
end Yd
