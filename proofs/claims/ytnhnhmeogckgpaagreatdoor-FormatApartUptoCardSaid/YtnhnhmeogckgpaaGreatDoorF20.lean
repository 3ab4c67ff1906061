import Derived.Test.YtnhnhmeogckgpaaGreatDoorOf0
import Derived.Test.YtnhnhmeogckgpaaGreatDoorF14
set_option linter.all false
set_option maxRecDepth 200000
set_option maxHeartbeats 8000000
namespace Yd
open List renaming length_map→a
open Go Go.RowKit Go.Proofs
theorem abZ (F:Int→List Int) (v:kT):(jZ F v).k=v.k:=by
 unfold jZ
 split
 ·rfl
 ·rfl
theorem aeU (F:Int→List Int) {e:EvC} (h:e.kind=2):(dK F e).v.k=e.v.k:=by
 unfold dK;simp only[h,true_or,if_true];exact abZ _ _
theorem DX {c:Cont} (h:fT c) (hf:aC c):aC (bV c):=by
 refine⟨fun i hi=>?_,?_,?_,?_,?_,fun e he hk=>?_⟩
 ·show((bN (aS c) (i:Int)).map (aH (c.nl i))).length≤jP i
  rw[a];refine Nat.le_trans (FN (Cv _ _) (fun x hx=>?_)) (hf.1 i hi);obtain⟨s',h1,h2,h3⟩:=wz h _ (Gx _ hx);simp only at h2 h3;have:i=s':=by omega
  rw[this];exact h3
 ·show(c.E.map _).length≤3000;rw[a];exact hf.2.1
 ·show(c.D.map _).length≤3000;rw[a];exact hf.2.2.1
 ·show(c.M.map _).length≤3000;rw[a];exact hf.2.2.2.1
 ·show(c.Q.map _).length≤3000;rw[a];exact hf.2.2.2.2.1
 ·obtain⟨x,hx,rfl⟩:=List.mem_map.1 (show e∈c.E.map (dK (bN (aS c))) from he)
  have hk':x.kind=2:=hk;rw[aeU _ hk'];exact hf.2.2.2.2.2 x hx hk'
theorem yx {ls:List aB} {z:Cont} (h:nS bK 0 ls= .ok z):Bw (bV z):=by
 obtain⟨h1,_,_,h4,_⟩:=Il h;exact(fT.number h1).J4 (DX h1 h4)
end Yd
