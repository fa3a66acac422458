import Derived.Test.YtdibnlhlngodeaaGreatDoorPZS
set_option linter.unusedVariables false
set_option linter.unusedSimpArgs false
/- The program's MsgOk answers as the reference's: over residual programs. -/
namespace Go.Proofs.YtdibnlhlngodeaaGreatDoor
open Go Go.Tm
def siteIn (p : Pln) (k : Int) : Bool := inB k 0 ((p.gives.length : Int) - 1)
end Go.Proofs.YtdibnlhlngodeaaGreatDoor
