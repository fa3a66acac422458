/- The tied card of FnSitNew: for every input it returns true, and its arguments read behind the call as they read before; the listed tables of the library as the program's text lays them. No conditions beyond the given card's own. -/
import Derived.Test.YtdibnlhlngodeaaGreatDoorCards
import Derived.Test.YtdibnlhlngodeaaGreatDoorTie
import Derived.Test.YtdibnlhlngodeaaGreatDoorTd
import Derived.SevenTiedAt
import Derived.ProofKit
import Derived.LaidMore
import Derived.LaidHandle
import Derived.OpenShut
import Derived.Stop.Joined
set_option linter.unusedVariables false
set_option linter.unusedSimpArgs false
namespace Go.Proofs.YtdibnlhlngodeaaGreatDoor
open Go Go.Tm Go.ChangeShapes Go.WideShapes Go.ChangeAt Go.RowKit
theorem FnSitNew_j11 : ((Rows.fnSitNewRow.recurses == Tryz.prog.recurses 9)) = true := by kernel_rfl
theorem FnSitNew_j12 : ((Rows.fnSitNewRow.named == Tryz.prog.varsNamed 9)) = true := by kernel_rfl
theorem FnSitNew_j13 : ((Rows.fnSitNewRow.maps == (Tryz.f9.params.toList ++ Rows.fnSitNewSpec.plain.varTypes Tryz.prog).any (Tryz.prog.mapsRec ·))) = true := by kernel_rfl
theorem FnSitNew_j14 : ((Rows.fnSitNewRow.ifaces == (Tryz.f9.params.toList ++ Rows.fnSitNewSpec.plain.varTypes Tryz.prog).any (Tryz.prog.ifacesRec ·))) = true := by kernel_rfl
theorem FnSitNew_j15 : ((Rows.fnSitNewRow.mapsOut == Tryz.prog.mapsAmong Tryz.f9.resultTypes.toList)) = true := by kernel_rfl
theorem FnSitNew_j16 : ((Rows.fnSitNewRow.loops == (Tryz.f9.params.toList ++ Rows.fnSitNewSpec.plain.varTypes Tryz.prog).any (Tryz.prog.loopsFrom ·))) = true := by kernel_rfl
theorem FnSitNew_j17 : ((Rows.fnSitNewRow.wideKeys == (Tryz.f9.params.toList ++ Rows.fnSitNewSpec.plain.varTypes Tryz.prog ++ Tryz.f9.resultTypes.toList).any (Tryz.prog.wideKeysFrom ·))) = true := by kernel_rfl

end Go.Proofs.YtdibnlhlngodeaaGreatDoor
