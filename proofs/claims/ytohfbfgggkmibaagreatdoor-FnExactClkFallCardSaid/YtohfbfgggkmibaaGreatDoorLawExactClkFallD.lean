/- The tied card of FnExactClkFall: for every input it returns true,and its arguments read behind the call as they read before; the listed tables of the library as the program's text lays them. No conditions beyond the given card's own. -/
import Derived.Test.YtohfbfgggkmibaaGreatDoorCards
import Derived.Test.YtohfbfgggkmibaaGreatDoorTie
import Derived.Test.YtohfbfgggkmibaaGreatDoorTd
import Derived.SevenTiedAt
import Derived.ProofKit
import Derived.LaidMore
import Derived.LaidHandle
import Derived.OpenShut
import Derived.Stop.Joined
set_option linter.unusedVariables false
set_option linter.unusedSimpArgs false
namespace Go.Proofs.YtohfbfgggkmibaaGreatDoor
open Go Go.Tm Go.ChangeShapes Go.WideShapes Go.ChangeAt Go.RowKit
theorem FnExactClkFall_j11 : ((Rows.fnExactClkFallRow.recurses == Tryz.prog.recurses 4)) = true := by kernel_rfl
theorem FnExactClkFall_j12 : ((Rows.fnExactClkFallRow.named == Tryz.prog.varsNamed 4)) = true := by kernel_rfl
theorem FnExactClkFall_j13 : ((Rows.fnExactClkFallRow.maps == (Tryz.f4.params.toList ++ Rows.fnExactClkFallSpec.plain.varTypes Tryz.prog).any (Tryz.prog.mapsRec ·))) = true := by kernel_rfl
theorem FnExactClkFall_j14 : ((Rows.fnExactClkFallRow.ifaces == (Tryz.f4.params.toList ++ Rows.fnExactClkFallSpec.plain.varTypes Tryz.prog).any (Tryz.prog.ifacesRec ·))) = true := by kernel_rfl
theorem FnExactClkFall_j15 : ((Rows.fnExactClkFallRow.mapsOut == Tryz.prog.mapsAmong Tryz.f4.resultTypes.toList)) = true := by kernel_rfl
theorem FnExactClkFall_j16 : ((Rows.fnExactClkFallRow.loops == (Tryz.f4.params.toList ++ Rows.fnExactClkFallSpec.plain.varTypes Tryz.prog).any (Tryz.prog.loopsFrom ·))) = true := by kernel_rfl
theorem FnExactClkFall_j17 : ((Rows.fnExactClkFallRow.wideKeys == (Tryz.f4.params.toList ++ Rows.fnExactClkFallSpec.plain.varTypes Tryz.prog ++ Tryz.f4.resultTypes.toList).any (Tryz.prog.wideKeysFrom ·))) = true := by kernel_rfl
end Go.Proofs.YtohfbfgggkmibaaGreatDoor
