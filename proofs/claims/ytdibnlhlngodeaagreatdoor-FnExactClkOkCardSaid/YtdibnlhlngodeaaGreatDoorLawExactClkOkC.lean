/- The tied card of FnExactClkOk: for every input it returns true, and its arguments read behind the call as they read before; the listed tables of the library as the program's text lays them. No conditions beyond the given card's own. -/
import Derived.Test.YtdibnlhlngodeaaGreatDoorCards
import Derived.Test.YtdibnlhlngodeaaGreatDoorTie
import Derived.Test.YtdibnlhlngodeaaGreatDoorTd
import Derived.SevenTiedAt
import Derived.ProofKit
import Derived.LaidMore
import Derived.LaidHandle
import Derived.OpenShut
import Derived.Stop.Joined
set_option linter.unusedVariables false
set_option linter.unusedSimpArgs false
namespace Go.Proofs.YtdibnlhlngodeaaGreatDoor
open Go Go.Tm Go.ChangeShapes Go.WideShapes Go.ChangeAt Go.RowKit
theorem FnExactClkOk_j0 : (Rows.fnExactClkOkRow.wf (OpenSpec.ofChange Rows.fnExactClkOkSpec)) = true := by kernel_rfl
theorem FnExactClkOk_j1 : (laidOutB Tryz.prog) = true := by kernel_rfl
theorem FnExactClkOk_j2 : (mapsRowed Tryz.prog) = true := by kernel_rfl
theorem FnExactClkOk_j3 : (Tryz.f6.params.all (Tryz.prog.readableRec ·)) = true := by kernel_rfl
theorem FnExactClkOk_j4 : (namedTie Tryz.prog Rows.fnExactClkOkRow.named Rows.fnExactClkOkSpec.vars) = true := by kernel_rfl
theorem FnExactClkOk_j5 : ((Rows.fnExactClkOkRow.stops == [])) = true := by kernel_rfl
theorem FnExactClkOk_j6 : ((Tryz.prog.stops == [])) = true := by kernel_rfl
theorem FnExactClkOk_j7 : ((Rows.fnExactClkOkRow.knobs == [])) = true := by kernel_rfl
theorem FnExactClkOk_j8 : ((Tryz.prog.stopKnobs == [])) = true := by kernel_rfl
theorem FnExactClkOk_j9 : ((Rows.fnExactClkOkRow.inPlace == Tryz.prog.inPlace 6)) = true := by kernel_rfl
theorem FnExactClkOk_j10 : ((Rows.fnExactClkOkRow.unfollowed == Tryz.prog.unfollowed 6)) = true := by kernel_rfl

end Go.Proofs.YtdibnlhlngodeaaGreatDoor
