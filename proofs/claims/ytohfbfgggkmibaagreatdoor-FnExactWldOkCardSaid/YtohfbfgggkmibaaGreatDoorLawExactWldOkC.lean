/- The tied card of FnExactWldOk: for every input it returns true,and its arguments read behind the call as they read before; the listed tables of the library as the program's text lays them. No conditions beyond the given card's own. -/
import Derived.Test.YtohfbfgggkmibaaGreatDoorCards
import Derived.Test.YtohfbfgggkmibaaGreatDoorTie
import Derived.Test.YtohfbfgggkmibaaGreatDoorTd
import Derived.SevenTiedAt
import Derived.ProofKit
import Derived.LaidMore
import Derived.LaidHandle
import Derived.OpenShut
import Derived.Stop.Joined
set_option linter.unusedVariables false
set_option linter.unusedSimpArgs false
namespace Go.Proofs.YtohfbfgggkmibaaGreatDoor
open Go Go.Tm Go.ChangeShapes Go.WideShapes Go.ChangeAt Go.RowKit
theorem FnExactWldOk_j0 : (Rows.fnExactWldOkRow.wf (OpenSpec.ofChange Rows.fnExactWldOkSpec)) = true := by kernel_rfl
theorem FnExactWldOk_j1 : (laidOutB Tryz.prog) = true := by kernel_rfl
theorem FnExactWldOk_j2 : (mapsRowed Tryz.prog) = true := by kernel_rfl
theorem FnExactWldOk_j3 : (Tryz.f3.params.all (Tryz.prog.readableRec ·)) = true := by kernel_rfl
theorem FnExactWldOk_j4 : (namedTie Tryz.prog Rows.fnExactWldOkRow.named Rows.fnExactWldOkSpec.vars) = true := by kernel_rfl
theorem FnExactWldOk_j5 : ((Rows.fnExactWldOkRow.stops == [])) = true := by kernel_rfl
theorem FnExactWldOk_j6 : ((Tryz.prog.stops == [])) = true := by kernel_rfl
theorem FnExactWldOk_j7 : ((Rows.fnExactWldOkRow.knobs == [])) = true := by kernel_rfl
theorem FnExactWldOk_j8 : ((Tryz.prog.stopKnobs == [])) = true := by kernel_rfl
theorem FnExactWldOk_j9 : ((Rows.fnExactWldOkRow.inPlace == Tryz.prog.inPlace 3)) = true := by kernel_rfl
theorem FnExactWldOk_j10 : ((Rows.fnExactWldOkRow.unfollowed == Tryz.prog.unfollowed 3)) = true := by kernel_rfl
end Go.Proofs.YtohfbfgggkmibaaGreatDoor
