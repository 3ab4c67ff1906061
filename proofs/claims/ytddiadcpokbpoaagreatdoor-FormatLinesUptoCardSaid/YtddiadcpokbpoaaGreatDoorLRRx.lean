import Derived.Test.YtddiadcpokbpoaaGreatDoorLDown13
import Derived.Test.YtddiadcpokbpoaaGreatDoorLRST
set_option linter.all false
set_option maxRecDepth 200000
set_option maxHeartbeats 8000000
namespace Yd
open Go Go.RowKit Go.Proofs
theorem Pk {w:World}{B:Nat}{l:bB}{s:aP}(h:iB w B l s)(hn:s.names.length<=1000)(hv:s.aF.length<=1000):
  Calls Tryz.prog 18 #[jg l] w (cK (.bool (nS s)) w):=by
 unfold nS;by_cases h0:s.kind<0
 .rw[show(decide (0<=s.kind) && decide (s.kind<10) && jT s.kind.toNat s)=false by simp;intro;omega]
  have hk:l.kind<0:=by rw[h.1.1];exact h0
  have hb:decide (l.kind<0)=true:=by simpa using hk
  clear h h0 hk hn hv;go_enter Tryz.func18,Tryz.ntmps18;go_wp2_with fail;go_ret;exact⟨rfl,aB (Below.refl _ _) _⟩
 .by_cases h1:10<=s.kind
  .rw[show(decide (0<=s.kind) && decide (s.kind<10) && jT s.kind.toNat s)=false by simp;intro;omega]
   have hk:10<=l.kind:=by rw[h.1.1];exact h1
   have hb:decide (l.kind<0)=false:=by simp;omega
   have hb1:decide (9<l.kind)=true:=by simp;omega
   clear h h0 h1 hk hn hv;go_enter Tryz.func18,Tryz.ntmps18;go_wp2_with fail;go_ret;exact⟨rfl,aB (Below.refl _ _) _⟩
  .obtain⟨k,hk⟩:∃k:Nat,s.kind=(k:Int):=⟨s.kind.toNat,by omega⟩
   rw[show(decide (0<=s.kind) && decide (s.kind<10) && jT s.kind.toNat s)=jT k s by
    rw[hk,kS];simp;intro;omega]
   rcases(by omega:k=1\/k=8\/k=9\/(k≠1/\k≠8/\k≠9)) with rfl|rfl|rfl|⟨e1,e8,e9⟩
   .exact VO 1 aj aj aj aj h hk hn hv
   .exact X7 8 aj aj aj aj h hk hn hv
   .exact VP 9 aj aj aj aj h hk hn hv
   .exact VN k ah (aR.2 ah) (aR.2 ah) (aR.2 ah) h hk hn hv
end Yd
