import Derived.Test.YtdibnlhlngodeaaGreatDoorTd
import Derived.Test.YtdibnlhlngodeaaGreatDoorPQ
import Derived.Test.YtdibnlhlngodeaaGreatDoorPR
set_option linter.unusedVariables false
set_option linter.unusedSimpArgs false
/- Copies, comparisons, marks and sizes of acts: over residual programs. -/
namespace Go.Proofs.YtdibnlhlngodeaaGreatDoor
open Go Go.Tm
end Go.Proofs.YtdibnlhlngodeaaGreatDoor
