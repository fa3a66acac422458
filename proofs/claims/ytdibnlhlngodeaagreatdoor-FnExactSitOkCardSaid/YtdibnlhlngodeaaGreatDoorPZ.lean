/- What a site does alone: the specification's tries, over residual programs. -/
import Derived.Test.YtdibnlhlngodeaaGreatDoorPY
set_option linter.unusedVariables false
set_option linter.unusedSimpArgs false
namespace Go.Proofs.YtdibnlhlngodeaaGreatDoor
open Go Go.Tm

theorem arg_zero : argOk [0, 0] = true := by decide

end Go.Proofs.YtdibnlhlngodeaaGreatDoor
