/- The tied card of FnExactClkOk: for every input it returns true, and its arguments read behind the call as they read before; the listed tables of the library as the program's text lays them. No conditions beyond the given card's own. -/
import Derived.Test.YtdibnlhlngodeaaGreatDoorCards
import Derived.Test.YtdibnlhlngodeaaGreatDoorTie
import Derived.Test.YtdibnlhlngodeaaGreatDoorTd
import Derived.SevenTiedAt
import Derived.ProofKit
import Derived.LaidMore
import Derived.LaidHandle
import Derived.OpenShut
import Derived.Stop.Joined
set_option linter.unusedVariables false
set_option linter.unusedSimpArgs false
namespace Go.Proofs.YtdibnlhlngodeaaGreatDoor
open Go Go.Tm Go.ChangeShapes Go.WideShapes Go.ChangeAt Go.RowKit
theorem FnExactClkOk_j11 : ((Rows.fnExactClkOkRow.recurses == Tryz.prog.recurses 6)) = true := by kernel_rfl
theorem FnExactClkOk_j12 : ((Rows.fnExactClkOkRow.named == Tryz.prog.varsNamed 6)) = true := by kernel_rfl
theorem FnExactClkOk_j13 : ((Rows.fnExactClkOkRow.maps == (Tryz.f6.params.toList ++ Rows.fnExactClkOkSpec.plain.varTypes Tryz.prog).any (Tryz.prog.mapsRec ·))) = true := by kernel_rfl
theorem FnExactClkOk_j14 : ((Rows.fnExactClkOkRow.ifaces == (Tryz.f6.params.toList ++ Rows.fnExactClkOkSpec.plain.varTypes Tryz.prog).any (Tryz.prog.ifacesRec ·))) = true := by kernel_rfl
theorem FnExactClkOk_j15 : ((Rows.fnExactClkOkRow.mapsOut == Tryz.prog.mapsAmong Tryz.f6.resultTypes.toList)) = true := by kernel_rfl
theorem FnExactClkOk_j16 : ((Rows.fnExactClkOkRow.loops == (Tryz.f6.params.toList ++ Rows.fnExactClkOkSpec.plain.varTypes Tryz.prog).any (Tryz.prog.loopsFrom ·))) = true := by kernel_rfl
theorem FnExactClkOk_j17 : ((Rows.fnExactClkOkRow.wideKeys == (Tryz.f6.params.toList ++ Rows.fnExactClkOkSpec.plain.varTypes Tryz.prog ++ Tryz.f6.resultTypes.toList).any (Tryz.prog.wideKeysFrom ·))) = true := by kernel_rfl

end Go.Proofs.YtdibnlhlngodeaaGreatDoor
