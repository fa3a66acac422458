/- The tied card of FnExactClkTick: for every input it returns true,and its arguments read behind the call as they read before; the listed tables of the library as the program's text lays them. No conditions beyond the given card's own. -/
import Derived.Test.YtgiejmanbmeloaaGreatDoorCards
import Derived.Test.YtgiejmanbmeloaaGreatDoorTie
import Derived.Test.YtgiejmanbmeloaaGreatDoorTd
import Derived.SevenTiedAt
import Derived.ProofKit
import Derived.LaidMore
import Derived.LaidHandle
import Derived.OpenShut
import Derived.Stop.Joined
set_option linter.unusedVariables false
set_option linter.unusedSimpArgs false
namespace Go.Proofs.YtgiejmanbmeloaaGreatDoor
open Go Go.Tm Go.ChangeShapes Go.WideShapes Go.ChangeAt Go.RowKit
theorem FnExactClkTick_j0 : (Rows.fnExactClkTickRow.wf (OpenSpec.ofChange Rows.fnExactClkTickSpec)) = true := by kernel_rfl
theorem FnExactClkTick_j1 : (laidOutB Tryz.prog) = true := by kernel_rfl
theorem FnExactClkTick_j2 : (mapsRowed Tryz.prog) = true := by kernel_rfl
theorem FnExactClkTick_j3 : (Tryz.f3.params.all (Tryz.prog.readableRec ·)) = true := by kernel_rfl
theorem FnExactClkTick_j4 : (namedTie Tryz.prog Rows.fnExactClkTickRow.named Rows.fnExactClkTickSpec.vars) = true := by kernel_rfl
theorem FnExactClkTick_j5 : ((Rows.fnExactClkTickRow.stops == [])) = true := by kernel_rfl
theorem FnExactClkTick_j6 : ((Tryz.prog.stops == [])) = true := by kernel_rfl
theorem FnExactClkTick_j7 : ((Rows.fnExactClkTickRow.knobs == [])) = true := by kernel_rfl
theorem FnExactClkTick_j8 : ((Tryz.prog.stopKnobs == [])) = true := by kernel_rfl
theorem FnExactClkTick_j9 : ((Rows.fnExactClkTickRow.inPlace == Tryz.prog.inPlace 3)) = true := by kernel_rfl
theorem FnExactClkTick_j10 : ((Rows.fnExactClkTickRow.unfollowed == Tryz.prog.unfollowed 3)) = true := by kernel_rfl
end Go.Proofs.YtgiejmanbmeloaaGreatDoor
