/- The tied card of FnSitNew: for every input it returns true, and its arguments read behind the call as they read before; the listed tables of the library as the program's text lays them. No conditions beyond the given card's own. -/
import Derived.Test.YtdibnlhlngodeaaGreatDoorCards
import Derived.Test.YtdibnlhlngodeaaGreatDoorTie
import Derived.Test.YtdibnlhlngodeaaGreatDoorTd
import Derived.SevenTiedAt
import Derived.ProofKit
import Derived.LaidMore
import Derived.LaidHandle
import Derived.OpenShut
import Derived.Stop.Joined
set_option linter.unusedVariables false
set_option linter.unusedSimpArgs false
namespace Go.Proofs.YtdibnlhlngodeaaGreatDoor
open Go Go.Tm Go.ChangeShapes Go.WideShapes Go.ChangeAt Go.RowKit
theorem FnSitNew_j0 : (Rows.fnSitNewRow.wf (OpenSpec.ofChange Rows.fnSitNewSpec)) = true := by kernel_rfl
theorem FnSitNew_j1 : (laidOutB Tryz.prog) = true := by kernel_rfl
theorem FnSitNew_j2 : (mapsRowed Tryz.prog) = true := by kernel_rfl
theorem FnSitNew_j3 : (Tryz.f9.params.all (Tryz.prog.readableRec ·)) = true := by kernel_rfl
theorem FnSitNew_j4 : (namedTie Tryz.prog Rows.fnSitNewRow.named Rows.fnSitNewSpec.vars) = true := by kernel_rfl
theorem FnSitNew_j5 : ((Rows.fnSitNewRow.stops == [])) = true := by kernel_rfl
theorem FnSitNew_j6 : ((Tryz.prog.stops == [])) = true := by kernel_rfl
theorem FnSitNew_j7 : ((Rows.fnSitNewRow.knobs == [])) = true := by kernel_rfl
theorem FnSitNew_j8 : ((Tryz.prog.stopKnobs == [])) = true := by kernel_rfl
theorem FnSitNew_j9 : ((Rows.fnSitNewRow.inPlace == Tryz.prog.inPlace 9)) = true := by kernel_rfl
theorem FnSitNew_j10 : ((Rows.fnSitNewRow.unfollowed == Tryz.prog.unfollowed 9)) = true := by kernel_rfl

end Go.Proofs.YtdibnlhlngodeaaGreatDoor
