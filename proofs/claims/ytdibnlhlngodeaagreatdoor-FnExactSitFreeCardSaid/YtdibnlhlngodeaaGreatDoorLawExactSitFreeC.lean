/- The tied card of FnExactSitFree: for every input it returns true, and its arguments read behind the call as they read before; the listed tables of the library as the program's text lays them. No conditions beyond the given card's own. -/
import Derived.Test.YtdibnlhlngodeaaGreatDoorCards
import Derived.Test.YtdibnlhlngodeaaGreatDoorTie
import Derived.Test.YtdibnlhlngodeaaGreatDoorTd
import Derived.SevenTiedAt
import Derived.ProofKit
import Derived.LaidMore
import Derived.LaidHandle
import Derived.OpenShut
import Derived.Stop.Joined
set_option linter.unusedVariables false
set_option linter.unusedSimpArgs false
namespace Go.Proofs.YtdibnlhlngodeaaGreatDoor
open Go Go.Tm Go.ChangeShapes Go.WideShapes Go.ChangeAt Go.RowKit
theorem FnExactSitFree_j0 : (Rows.fnExactSitFreeRow.wf (OpenSpec.ofChange Rows.fnExactSitFreeSpec)) = true := by kernel_rfl
theorem FnExactSitFree_j1 : (laidOutB Tryz.prog) = true := by kernel_rfl
theorem FnExactSitFree_j2 : (mapsRowed Tryz.prog) = true := by kernel_rfl
theorem FnExactSitFree_j3 : (Tryz.f5.params.all (Tryz.prog.readableRec ·)) = true := by kernel_rfl
theorem FnExactSitFree_j4 : (namedTie Tryz.prog Rows.fnExactSitFreeRow.named Rows.fnExactSitFreeSpec.vars) = true := by kernel_rfl
theorem FnExactSitFree_j5 : ((Rows.fnExactSitFreeRow.stops == [])) = true := by kernel_rfl
theorem FnExactSitFree_j6 : ((Tryz.prog.stops == [])) = true := by kernel_rfl
theorem FnExactSitFree_j7 : ((Rows.fnExactSitFreeRow.knobs == [])) = true := by kernel_rfl
theorem FnExactSitFree_j8 : ((Tryz.prog.stopKnobs == [])) = true := by kernel_rfl
theorem FnExactSitFree_j9 : ((Rows.fnExactSitFreeRow.inPlace == Tryz.prog.inPlace 5)) = true := by kernel_rfl
theorem FnExactSitFree_j10 : ((Rows.fnExactSitFreeRow.unfollowed == Tryz.prog.unfollowed 5)) = true := by kernel_rfl

end Go.Proofs.YtdibnlhlngodeaaGreatDoor
