/- The tied card of FnExactWldOk: for every input it returns true,and its arguments read behind the call as they read before; the listed tables of the library as the program's text lays them. No conditions beyond the given card's own. -/
import Derived.Test.YtohfbfgggkmibaaGreatDoorCards
import Derived.Test.YtohfbfgggkmibaaGreatDoorTie
import Derived.Test.YtohfbfgggkmibaaGreatDoorTd
import Derived.SevenTiedAt
import Derived.ProofKit
import Derived.LaidMore
import Derived.LaidHandle
import Derived.OpenShut
import Derived.Stop.Joined
set_option linter.unusedVariables false
set_option linter.unusedSimpArgs false
namespace Go.Proofs.YtohfbfgggkmibaaGreatDoor
open Go Go.Tm Go.ChangeShapes Go.WideShapes Go.ChangeAt Go.RowKit
theorem FnExactWldOk_j11 : ((Rows.fnExactWldOkRow.recurses == Tryz.prog.recurses 3)) = true := by kernel_rfl
theorem FnExactWldOk_j12 : ((Rows.fnExactWldOkRow.named == Tryz.prog.varsNamed 3)) = true := by kernel_rfl
theorem FnExactWldOk_j13 : ((Rows.fnExactWldOkRow.maps == (Tryz.f3.params.toList ++ Rows.fnExactWldOkSpec.plain.varTypes Tryz.prog).any (Tryz.prog.mapsRec ·))) = true := by kernel_rfl
theorem FnExactWldOk_j14 : ((Rows.fnExactWldOkRow.ifaces == (Tryz.f3.params.toList ++ Rows.fnExactWldOkSpec.plain.varTypes Tryz.prog).any (Tryz.prog.ifacesRec ·))) = true := by kernel_rfl
theorem FnExactWldOk_j15 : ((Rows.fnExactWldOkRow.mapsOut == Tryz.prog.mapsAmong Tryz.f3.resultTypes.toList)) = true := by kernel_rfl
theorem FnExactWldOk_j16 : ((Rows.fnExactWldOkRow.loops == (Tryz.f3.params.toList ++ Rows.fnExactWldOkSpec.plain.varTypes Tryz.prog).any (Tryz.prog.loopsFrom ·))) = true := by kernel_rfl
theorem FnExactWldOk_j17 : ((Rows.fnExactWldOkRow.wideKeys == (Tryz.f3.params.toList ++ Rows.fnExactWldOkSpec.plain.varTypes Tryz.prog ++ Tryz.f3.resultTypes.toList).any (Tryz.prog.wideKeysFrom ·))) = true := by kernel_rfl
end Go.Proofs.YtohfbfgggkmibaaGreatDoor
