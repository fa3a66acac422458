import Derived.Test.YtohfbfgggkmibaaGreatDoorR
import Derived.Test.YtohfbfgggkmibaaGreatDoorTd
set_option linter.unusedVariables false
set_option linter.unusedSimpArgs false
/- What the draws come to: a reader's picks,and what is drawn by them. -/
namespace Go.Proofs.YtohfbfgggkmibaaGreatDoor
open Go Go.Tm
end Go.Proofs.YtohfbfgggkmibaaGreatDoor
