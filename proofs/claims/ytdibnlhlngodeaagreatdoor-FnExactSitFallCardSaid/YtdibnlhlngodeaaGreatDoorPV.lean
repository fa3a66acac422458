import Derived.Test.YtdibnlhlngodeaaGreatDoorPT
import Derived.Test.YtdibnlhlngodeaaGreatDoorPM
import Derived.Test.YtdibnlhlngodeaaGreatDoorTd
set_option linter.unusedVariables false
set_option linter.unusedSimpArgs false
/- What one site knows is so for all; who is alone knows all: over residual programs. -/
namespace Go.Proofs.YtdibnlhlngodeaaGreatDoor
open Go Go.Tm
end Go.Proofs.YtdibnlhlngodeaaGreatDoor
