import Derived.Test.YtdibnlhlngodeaaGreatDoorPZE
import Derived.Test.YtdibnlhlngodeaaGreatDoorTd
import Derived.Test.YtdibnlhlngodeaaGreatDoorPT
set_option linter.unusedVariables false
set_option linter.unusedSimpArgs false
/- The program's CatWrites, CatReads and CatPins answer as the reference's: over residual programs. -/
namespace Go.Proofs.YtdibnlhlngodeaaGreatDoor
open Go Go.Tm
end Go.Proofs.YtdibnlhlngodeaaGreatDoor
