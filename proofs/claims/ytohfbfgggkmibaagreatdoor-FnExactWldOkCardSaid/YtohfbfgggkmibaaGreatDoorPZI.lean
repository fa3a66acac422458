import Derived.Test.YtohfbfgggkmibaaGreatDoorPZG
import Derived.Test.YtohfbfgggkmibaaGreatDoorPY
import Derived.Test.YtohfbfgggkmibaaGreatDoorPZ
set_option linter.unusedVariables false
set_option linter.unusedSimpArgs false
/- The program's LocTry answers as the reference's: over residual programs. -/
namespace Go.Proofs.YtohfbfgggkmibaaGreatDoor
open Go Go.Tm
end Go.Proofs.YtohfbfgggkmibaaGreatDoor
