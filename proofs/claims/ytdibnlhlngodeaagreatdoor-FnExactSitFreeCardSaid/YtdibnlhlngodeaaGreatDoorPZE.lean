import Derived.Test.YtdibnlhlngodeaaGreatDoorPZD
set_option linter.unusedVariables false
set_option linter.unusedSimpArgs false
/- Marks, and what is held; sizes of acts: over residual programs. -/
namespace Go.Proofs.YtdibnlhlngodeaaGreatDoor
open Go Go.Tm
end Go.Proofs.YtdibnlhlngodeaaGreatDoor
