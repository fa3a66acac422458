/- What draws of treaties, of what sites have added, of forms and lines come to. -/
import Derived.Test.YtdibnlhlngodeaaGreatDoorPB
namespace Go.Proofs.YtdibnlhlngodeaaGreatDoor
open Go Go.Tm

end Go.Proofs.YtdibnlhlngodeaaGreatDoor
