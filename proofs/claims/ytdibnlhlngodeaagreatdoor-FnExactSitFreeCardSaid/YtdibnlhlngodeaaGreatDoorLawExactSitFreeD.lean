/- The tied card of FnExactSitFree: for every input it returns true, and its arguments read behind the call as they read before; the listed tables of the library as the program's text lays them. No conditions beyond the given card's own. -/
import Derived.Test.YtdibnlhlngodeaaGreatDoorCards
import Derived.Test.YtdibnlhlngodeaaGreatDoorTie
import Derived.Test.YtdibnlhlngodeaaGreatDoorTd
import Derived.SevenTiedAt
import Derived.ProofKit
import Derived.LaidMore
import Derived.LaidHandle
import Derived.OpenShut
import Derived.Stop.Joined
set_option linter.unusedVariables false
set_option linter.unusedSimpArgs false
namespace Go.Proofs.YtdibnlhlngodeaaGreatDoor
open Go Go.Tm Go.ChangeShapes Go.WideShapes Go.ChangeAt Go.RowKit
theorem FnExactSitFree_j11 : ((Rows.fnExactSitFreeRow.recurses == Tryz.prog.recurses 5)) = true := by kernel_rfl
theorem FnExactSitFree_j12 : ((Rows.fnExactSitFreeRow.named == Tryz.prog.varsNamed 5)) = true := by kernel_rfl
theorem FnExactSitFree_j13 : ((Rows.fnExactSitFreeRow.maps == (Tryz.f5.params.toList ++ Rows.fnExactSitFreeSpec.plain.varTypes Tryz.prog).any (Tryz.prog.mapsRec ·))) = true := by kernel_rfl
theorem FnExactSitFree_j14 : ((Rows.fnExactSitFreeRow.ifaces == (Tryz.f5.params.toList ++ Rows.fnExactSitFreeSpec.plain.varTypes Tryz.prog).any (Tryz.prog.ifacesRec ·))) = true := by kernel_rfl
theorem FnExactSitFree_j15 : ((Rows.fnExactSitFreeRow.mapsOut == Tryz.prog.mapsAmong Tryz.f5.resultTypes.toList)) = true := by kernel_rfl
theorem FnExactSitFree_j16 : ((Rows.fnExactSitFreeRow.loops == (Tryz.f5.params.toList ++ Rows.fnExactSitFreeSpec.plain.varTypes Tryz.prog).any (Tryz.prog.loopsFrom ·))) = true := by kernel_rfl
theorem FnExactSitFree_j17 : ((Rows.fnExactSitFreeRow.wideKeys == (Tryz.f5.params.toList ++ Rows.fnExactSitFreeSpec.plain.varTypes Tryz.prog ++ Tryz.f5.resultTypes.toList).any (Tryz.prog.wideKeysFrom ·))) = true := by kernel_rfl

end Go.Proofs.YtdibnlhlngodeaaGreatDoor
