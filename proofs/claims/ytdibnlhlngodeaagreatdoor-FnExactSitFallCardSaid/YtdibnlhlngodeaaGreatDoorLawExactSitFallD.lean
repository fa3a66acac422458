/- The tied card of FnExactSitFall: for every input it returns true, and its arguments read behind the call as they read before; the listed tables of the library as the program's text lays them. No conditions beyond the given card's own. -/
import Derived.Test.YtdibnlhlngodeaaGreatDoorCards
import Derived.Test.YtdibnlhlngodeaaGreatDoorTie
import Derived.Test.YtdibnlhlngodeaaGreatDoorTd
import Derived.SevenTiedAt
import Derived.ProofKit
import Derived.LaidMore
import Derived.LaidHandle
import Derived.OpenShut
import Derived.Stop.Joined
set_option linter.unusedVariables false
set_option linter.unusedSimpArgs false
namespace Go.Proofs.YtdibnlhlngodeaaGreatDoor
open Go Go.Tm Go.ChangeShapes Go.WideShapes Go.ChangeAt Go.RowKit
theorem FnExactSitFall_j11 : ((Rows.fnExactSitFallRow.recurses == Tryz.prog.recurses 8)) = true := by kernel_rfl
theorem FnExactSitFall_j12 : ((Rows.fnExactSitFallRow.named == Tryz.prog.varsNamed 8)) = true := by kernel_rfl
theorem FnExactSitFall_j13 : ((Rows.fnExactSitFallRow.maps == (Tryz.f8.params.toList ++ Rows.fnExactSitFallSpec.plain.varTypes Tryz.prog).any (Tryz.prog.mapsRec ·))) = true := by kernel_rfl
theorem FnExactSitFall_j14 : ((Rows.fnExactSitFallRow.ifaces == (Tryz.f8.params.toList ++ Rows.fnExactSitFallSpec.plain.varTypes Tryz.prog).any (Tryz.prog.ifacesRec ·))) = true := by kernel_rfl
theorem FnExactSitFall_j15 : ((Rows.fnExactSitFallRow.mapsOut == Tryz.prog.mapsAmong Tryz.f8.resultTypes.toList)) = true := by kernel_rfl
theorem FnExactSitFall_j16 : ((Rows.fnExactSitFallRow.loops == (Tryz.f8.params.toList ++ Rows.fnExactSitFallSpec.plain.varTypes Tryz.prog).any (Tryz.prog.loopsFrom ·))) = true := by kernel_rfl
theorem FnExactSitFall_j17 : ((Rows.fnExactSitFallRow.wideKeys == (Tryz.f8.params.toList ++ Rows.fnExactSitFallSpec.plain.varTypes Tryz.prog ++ Tryz.f8.resultTypes.toList).any (Tryz.prog.wideKeysFrom ·))) = true := by kernel_rfl

end Go.Proofs.YtdibnlhlngodeaaGreatDoor
