/- The tied card of FnExactClkFall: for every input it returns true,and its arguments read behind the call as they read before; the listed tables of the library as the program's text lays them. No conditions beyond the given card's own. -/
import Derived.Test.YtohfbfgggkmibaaGreatDoorCards
import Derived.Test.YtohfbfgggkmibaaGreatDoorTie
import Derived.Test.YtohfbfgggkmibaaGreatDoorTd
import Derived.SevenTiedAt
import Derived.ProofKit
import Derived.LaidMore
import Derived.LaidHandle
import Derived.OpenShut
import Derived.Stop.Joined
set_option linter.unusedVariables false
set_option linter.unusedSimpArgs false
namespace Go.Proofs.YtohfbfgggkmibaaGreatDoor
open Go Go.Tm Go.ChangeShapes Go.WideShapes Go.ChangeAt Go.RowKit
theorem FnExactClkFall_j0 : (Rows.fnExactClkFallRow.wf (OpenSpec.ofChange Rows.fnExactClkFallSpec)) = true := by kernel_rfl
theorem FnExactClkFall_j1 : (laidOutB Tryz.prog) = true := by kernel_rfl
theorem FnExactClkFall_j2 : (mapsRowed Tryz.prog) = true := by kernel_rfl
theorem FnExactClkFall_j3 : (Tryz.f4.params.all (Tryz.prog.readableRec ·)) = true := by kernel_rfl
theorem FnExactClkFall_j4 : (namedTie Tryz.prog Rows.fnExactClkFallRow.named Rows.fnExactClkFallSpec.vars) = true := by kernel_rfl
theorem FnExactClkFall_j5 : ((Rows.fnExactClkFallRow.stops == [])) = true := by kernel_rfl
theorem FnExactClkFall_j6 : ((Tryz.prog.stops == [])) = true := by kernel_rfl
theorem FnExactClkFall_j7 : ((Rows.fnExactClkFallRow.knobs == [])) = true := by kernel_rfl
theorem FnExactClkFall_j8 : ((Tryz.prog.stopKnobs == [])) = true := by kernel_rfl
theorem FnExactClkFall_j9 : ((Rows.fnExactClkFallRow.inPlace == Tryz.prog.inPlace 4)) = true := by kernel_rfl
theorem FnExactClkFall_j10 : ((Rows.fnExactClkFallRow.unfollowed == Tryz.prog.unfollowed 4)) = true := by kernel_rfl
end Go.Proofs.YtohfbfgggkmibaaGreatDoor
