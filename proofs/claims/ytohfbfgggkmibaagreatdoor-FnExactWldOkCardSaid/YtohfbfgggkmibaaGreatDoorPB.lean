import Derived.Test.YtohfbfgggkmibaaGreatDoorPA
import Derived.Test.YtohfbfgggkmibaaGreatDoorTd
set_option linter.unusedVariables false
set_option linter.unusedSimpArgs false
/- What draws of numbers come to. -/
namespace Go.Proofs.YtohfbfgggkmibaaGreatDoor
open Go Go.Tm
end Go.Proofs.YtohfbfgggkmibaaGreatDoor
