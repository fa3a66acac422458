/- The tied card of FnExactSitFall: for every input it returns true, and its arguments read behind the call as they read before; the listed tables of the library as the program's text lays them. No conditions beyond the given card's own. -/
import Derived.Test.YtdibnlhlngodeaaGreatDoorCards
import Derived.Test.YtdibnlhlngodeaaGreatDoorTie
import Derived.Test.YtdibnlhlngodeaaGreatDoorTd
import Derived.SevenTiedAt
import Derived.ProofKit
import Derived.LaidMore
import Derived.LaidHandle
import Derived.OpenShut
import Derived.Stop.Joined
set_option linter.unusedVariables false
set_option linter.unusedSimpArgs false
namespace Go.Proofs.YtdibnlhlngodeaaGreatDoor
open Go Go.Tm Go.ChangeShapes Go.WideShapes Go.ChangeAt Go.RowKit
theorem FnExactSitFall_j0 : (Rows.fnExactSitFallRow.wf (OpenSpec.ofChange Rows.fnExactSitFallSpec)) = true := by kernel_rfl
theorem FnExactSitFall_j1 : (laidOutB Tryz.prog) = true := by kernel_rfl
theorem FnExactSitFall_j2 : (mapsRowed Tryz.prog) = true := by kernel_rfl
theorem FnExactSitFall_j3 : (Tryz.f8.params.all (Tryz.prog.readableRec ·)) = true := by kernel_rfl
theorem FnExactSitFall_j4 : (namedTie Tryz.prog Rows.fnExactSitFallRow.named Rows.fnExactSitFallSpec.vars) = true := by kernel_rfl
theorem FnExactSitFall_j5 : ((Rows.fnExactSitFallRow.stops == [])) = true := by kernel_rfl
theorem FnExactSitFall_j6 : ((Tryz.prog.stops == [])) = true := by kernel_rfl
theorem FnExactSitFall_j7 : ((Rows.fnExactSitFallRow.knobs == [])) = true := by kernel_rfl
theorem FnExactSitFall_j8 : ((Tryz.prog.stopKnobs == [])) = true := by kernel_rfl
theorem FnExactSitFall_j9 : ((Rows.fnExactSitFallRow.inPlace == Tryz.prog.inPlace 8)) = true := by kernel_rfl
theorem FnExactSitFall_j10 : ((Rows.fnExactSitFallRow.unfollowed == Tryz.prog.unfollowed 8)) = true := by kernel_rfl

end Go.Proofs.YtdibnlhlngodeaaGreatDoor
