import Derived.Test.YtdibnlhlngodeaaGreatDoorPY
set_option linter.unusedVariables false
set_option linter.unusedSimpArgs false
/- What a site does alone: the specification's tries, over residual programs. -/
namespace Go.Proofs.YtdibnlhlngodeaaGreatDoor
open Go Go.Tm
end Go.Proofs.YtdibnlhlngodeaaGreatDoor
