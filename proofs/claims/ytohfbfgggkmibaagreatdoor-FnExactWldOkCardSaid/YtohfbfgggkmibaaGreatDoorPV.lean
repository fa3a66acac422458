import Derived.Test.YtohfbfgggkmibaaGreatDoorPT
import Derived.Test.YtohfbfgggkmibaaGreatDoorPM
import Derived.Test.YtohfbfgggkmibaaGreatDoorTd
set_option linter.unusedVariables false
set_option linter.unusedSimpArgs false
/- What one site knows is so for all; who is alone knows all: over residual programs. -/
namespace Go.Proofs.YtohfbfgggkmibaaGreatDoor
open Go Go.Tm
end Go.Proofs.YtohfbfgggkmibaaGreatDoor
