import Derived.Test.YthdpangjphphjaaGreatDoorChB0
import Derived.Test.YthdpangjphphjaaGreatDoorProg
set_option maxRecDepth 200000
set_option maxHeartbeats 8000000
namespace Yd
open Go Go.RowKit Go.Proofs
end Yd


namespace Yd
open Go Go.RowKit Go.Proofs
end Yd
