import Derived.Test.YthdpangjphphjaaGreatDoorAto
import Derived.Test.YthdpangjphphjaaGreatDoorLines
import Derived.Test.YthdpangjphphjaaGreatDoorEnc
import Derived.Test.YthdpangjphphjaaGreatDoorRdV
import Derived.Test.YthdpangjphphjaaGreatDoorProg
set_option maxRecDepth 200000
set_option maxHeartbeats 8000000
namespace Yd
open Go Go.RowKit Go.Proofs

theorem run_pos {b : UInt8} {t : Bs} (h : beginsS (b :: t) = true) : 0 < runS (b :: t) := by
 have hb : (okB ⟨(b :: t).toArray⟩ 0 && letB ((Utf8.decode ⟨(b :: t).toArray⟩ 0).1 : Int)) = true := by
   unfold beginsS at h
   simpa using h
 rw [Bool.and_eq_true] at hb
 have hw := dec_w (b :: t) (by simp)
 unfold runS
 rw [whileE_cons (b :: t) eitB (by simp), if_pos (by rw [hb.1]; unfold eitB; rw [hb.2]; rfl)]
 omega
end Yd
