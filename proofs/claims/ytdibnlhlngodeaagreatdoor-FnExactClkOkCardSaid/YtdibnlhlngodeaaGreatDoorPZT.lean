import Derived.Test.YtdibnlhlngodeaaGreatDoorPZS
set_option linter.unusedVariables false
set_option linter.unusedSimpArgs false
/- The program's MsgOk answers as the reference's: over residual programs. -/
namespace Go.Proofs.YtdibnlhlngodeaaGreatDoor
open Go Go.Tm
end Go.Proofs.YtdibnlhlngodeaaGreatDoor
