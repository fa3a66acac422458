import Derived.Test.YtdibnlhlngodeaaGreatDoorPZG
import Derived.Test.YtdibnlhlngodeaaGreatDoorPY
import Derived.Test.YtdibnlhlngodeaaGreatDoorPZ
set_option linter.unusedVariables false
set_option linter.unusedSimpArgs false
/- The program's LocTry answers as the reference's: over residual programs. -/
namespace Go.Proofs.YtdibnlhlngodeaaGreatDoor
open Go Go.Tm
end Go.Proofs.YtdibnlhlngodeaaGreatDoor
