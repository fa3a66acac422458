/- The tied card of FnExactClkReady: for every input it returns true, and its arguments read behind the call as they read before; the listed tables of the library as the program's text lays them. No conditions beyond the given card's own. -/
import Derived.Test.YtdibnlhlngodeaaGreatDoorCards
import Derived.Test.YtdibnlhlngodeaaGreatDoorTie
import Derived.Test.YtdibnlhlngodeaaGreatDoorTd
import Derived.SevenTiedAt
import Derived.ProofKit
import Derived.LaidMore
import Derived.LaidHandle
import Derived.OpenShut
import Derived.Stop.Joined
set_option linter.unusedVariables false
set_option linter.unusedSimpArgs false
namespace Go.Proofs.YtdibnlhlngodeaaGreatDoor
open Go Go.Tm Go.ChangeShapes Go.WideShapes Go.ChangeAt Go.RowKit
theorem FnExactClkReady_j0 : (Rows.fnExactClkReadyRow.wf (OpenSpec.ofChange Rows.fnExactClkReadySpec)) = true := by kernel_rfl
theorem FnExactClkReady_j1 : (laidOutB Tryz.prog) = true := by kernel_rfl
theorem FnExactClkReady_j2 : (mapsRowed Tryz.prog) = true := by kernel_rfl
theorem FnExactClkReady_j3 : (Tryz.f7.params.all (Tryz.prog.readableRec ·)) = true := by kernel_rfl
theorem FnExactClkReady_j4 : (namedTie Tryz.prog Rows.fnExactClkReadyRow.named Rows.fnExactClkReadySpec.vars) = true := by kernel_rfl
theorem FnExactClkReady_j5 : ((Rows.fnExactClkReadyRow.stops == [])) = true := by kernel_rfl
theorem FnExactClkReady_j6 : ((Tryz.prog.stops == [])) = true := by kernel_rfl
theorem FnExactClkReady_j7 : ((Rows.fnExactClkReadyRow.knobs == [])) = true := by kernel_rfl
theorem FnExactClkReady_j8 : ((Tryz.prog.stopKnobs == [])) = true := by kernel_rfl
theorem FnExactClkReady_j9 : ((Rows.fnExactClkReadyRow.inPlace == Tryz.prog.inPlace 7)) = true := by kernel_rfl
theorem FnExactClkReady_j10 : ((Rows.fnExactClkReadyRow.unfollowed == Tryz.prog.unfollowed 7)) = true := by kernel_rfl

end Go.Proofs.YtdibnlhlngodeaaGreatDoor
