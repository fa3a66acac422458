/- The tied card of FnExactClkTick: for every input it returns true,and its arguments read behind the call as they read before; the listed tables of the library as the program's text lays them. No conditions beyond the given card's own. -/
import Derived.Test.YtgiejmanbmeloaaGreatDoorCards
import Derived.Test.YtgiejmanbmeloaaGreatDoorTie
import Derived.Test.YtgiejmanbmeloaaGreatDoorTd
import Derived.SevenTiedAt
import Derived.ProofKit
import Derived.LaidMore
import Derived.LaidHandle
import Derived.OpenShut
import Derived.Stop.Joined
set_option linter.unusedVariables false
set_option linter.unusedSimpArgs false
namespace Go.Proofs.YtgiejmanbmeloaaGreatDoor
open Go Go.Tm Go.ChangeShapes Go.WideShapes Go.ChangeAt Go.RowKit
theorem FnExactClkTick_j11 : ((Rows.fnExactClkTickRow.recurses == Tryz.prog.recurses 3)) = true := by kernel_rfl
theorem FnExactClkTick_j12 : ((Rows.fnExactClkTickRow.named == Tryz.prog.varsNamed 3)) = true := by kernel_rfl
theorem FnExactClkTick_j13 : ((Rows.fnExactClkTickRow.maps == (Tryz.f3.params.toList ++ Rows.fnExactClkTickSpec.plain.varTypes Tryz.prog).any (Tryz.prog.mapsRec ·))) = true := by kernel_rfl
theorem FnExactClkTick_j14 : ((Rows.fnExactClkTickRow.ifaces == (Tryz.f3.params.toList ++ Rows.fnExactClkTickSpec.plain.varTypes Tryz.prog).any (Tryz.prog.ifacesRec ·))) = true := by kernel_rfl
theorem FnExactClkTick_j15 : ((Rows.fnExactClkTickRow.mapsOut == Tryz.prog.mapsAmong Tryz.f3.resultTypes.toList)) = true := by kernel_rfl
theorem FnExactClkTick_j16 : ((Rows.fnExactClkTickRow.loops == (Tryz.f3.params.toList ++ Rows.fnExactClkTickSpec.plain.varTypes Tryz.prog).any (Tryz.prog.loopsFrom ·))) = true := by kernel_rfl
theorem FnExactClkTick_j17 : ((Rows.fnExactClkTickRow.wideKeys == (Tryz.f3.params.toList ++ Rows.fnExactClkTickSpec.plain.varTypes Tryz.prog ++ Tryz.f3.resultTypes.toList).any (Tryz.prog.wideKeysFrom ·))) = true := by kernel_rfl
end Go.Proofs.YtgiejmanbmeloaaGreatDoor
