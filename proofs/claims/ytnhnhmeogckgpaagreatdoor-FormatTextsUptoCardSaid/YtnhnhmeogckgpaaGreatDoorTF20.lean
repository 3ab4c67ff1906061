import Derived.Test.YtnhnhmeogckgpaaGreatDoorTOf0
import Derived.Test.YtnhnhmeogckgpaaGreatDoorTTxB
set_option linter.all false
set_option maxRecDepth 200000
set_option maxHeartbeats 8000000
namespace Yd
open List renaming length_map→a
open Go Go.RowKit Go.Proofs
theorem abm (F:Int→List Int) (v:lg):(lF F v).k=v.k:=by
 unfold lF
 split
 ·rfl
 ·rfl
theorem aeY (F:Int→List Int) {e:EvC} (h:e.kind=2):(fI F e).v.k=e.v.k:=by
 unfold fI;simp only[h,true_or,if_true];exact abm _ _
theorem LF {c:Cont} (h:gJ c) (hf:aD c):aD (fB c):=by
 refine⟨fun i hi=>?_,?_,?_,?_,?_,fun e he hk=>?_⟩
 ·show((bS (aZ c) (i:Int)).map (aN (c.nl i))).length≤jd i
  rw[a];refine Nat.le_trans (Ez (Ba _ _) (fun x hx=>?_)) (hf.1 i hi);obtain⟨s',h1,h2,h3⟩:=uH h _ (FE _ hx);simp only at h2 h3;have:i=s':=by omega
  rw[this];exact h3
 ·show(c.E.map _).length≤3000;rw[a];exact hf.2.1
 ·show(c.D.map _).length≤3000;rw[a];exact hf.2.2.1
 ·show(c.M.map _).length≤3000;rw[a];exact hf.2.2.2.1
 ·show(c.Q.map _).length≤3000;rw[a];exact hf.2.2.2.2.1
 ·obtain⟨x,hx,rfl⟩:=List.mem_map.1 (show e∈c.E.map (fI (bS (aZ c))) from he)
  have hk':x.kind=2:=hk;rw[aeY _ hk'];exact hf.2.2.2.2.2 x hx hk'
theorem JB {ls:List aB} {z:Cont} (h:rE iF 0 ls= .ok z):Aj (fB z):=by
 obtain⟨h1,_,_,h4,_⟩:=QW h;exact(gJ.number h1).QX (LF h1 h4)
end Yd
