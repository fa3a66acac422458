/- The tied card of FnExactClkReady: for every input it returns true, and its arguments read behind the call as they read before; the listed tables of the library as the program's text lays them. No conditions beyond the given card's own. -/
import Derived.Test.YtdibnlhlngodeaaGreatDoorCards
import Derived.Test.YtdibnlhlngodeaaGreatDoorTie
import Derived.Test.YtdibnlhlngodeaaGreatDoorTd
import Derived.SevenTiedAt
import Derived.ProofKit
import Derived.LaidMore
import Derived.LaidHandle
import Derived.OpenShut
import Derived.Stop.Joined
set_option linter.unusedVariables false
set_option linter.unusedSimpArgs false
namespace Go.Proofs.YtdibnlhlngodeaaGreatDoor
open Go Go.Tm Go.ChangeShapes Go.WideShapes Go.ChangeAt Go.RowKit
theorem FnExactClkReady_j11 : ((Rows.fnExactClkReadyRow.recurses == Tryz.prog.recurses 7)) = true := by kernel_rfl
theorem FnExactClkReady_j12 : ((Rows.fnExactClkReadyRow.named == Tryz.prog.varsNamed 7)) = true := by kernel_rfl
theorem FnExactClkReady_j13 : ((Rows.fnExactClkReadyRow.maps == (Tryz.f7.params.toList ++ Rows.fnExactClkReadySpec.plain.varTypes Tryz.prog).any (Tryz.prog.mapsRec ·))) = true := by kernel_rfl
theorem FnExactClkReady_j14 : ((Rows.fnExactClkReadyRow.ifaces == (Tryz.f7.params.toList ++ Rows.fnExactClkReadySpec.plain.varTypes Tryz.prog).any (Tryz.prog.ifacesRec ·))) = true := by kernel_rfl
theorem FnExactClkReady_j15 : ((Rows.fnExactClkReadyRow.mapsOut == Tryz.prog.mapsAmong Tryz.f7.resultTypes.toList)) = true := by kernel_rfl
theorem FnExactClkReady_j16 : ((Rows.fnExactClkReadyRow.loops == (Tryz.f7.params.toList ++ Rows.fnExactClkReadySpec.plain.varTypes Tryz.prog).any (Tryz.prog.loopsFrom ·))) = true := by kernel_rfl
theorem FnExactClkReady_j17 : ((Rows.fnExactClkReadyRow.wideKeys == (Tryz.f7.params.toList ++ Rows.fnExactClkReadySpec.plain.varTypes Tryz.prog ++ Tryz.f7.resultTypes.toList).any (Tryz.prog.wideKeysFrom ·))) = true := by kernel_rfl

end Go.Proofs.YtdibnlhlngodeaaGreatDoor
