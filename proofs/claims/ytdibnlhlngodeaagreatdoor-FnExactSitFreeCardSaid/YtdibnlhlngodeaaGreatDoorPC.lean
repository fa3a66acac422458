import Derived.Test.YtdibnlhlngodeaaGreatDoorPB
set_option linter.unusedVariables false
set_option linter.unusedSimpArgs false
/- What draws of treaties, of what sites have added, of forms and lines come to. -/
namespace Go.Proofs.YtdibnlhlngodeaaGreatDoor
open Go Go.Tm
end Go.Proofs.YtdibnlhlngodeaaGreatDoor
