/- The tied card of FnExactSitHear: for every input it returns true,and its arguments read behind the call as they read before; the listed tables of the library as the program's text lays them. No conditions beyond the given card's own. -/
import Derived.Test.YtohfbfgggkmibaaGreatDoorCards
import Derived.Test.YtohfbfgggkmibaaGreatDoorTie
import Derived.Test.YtohfbfgggkmibaaGreatDoorTd
import Derived.SevenTiedAt
import Derived.ProofKit
import Derived.LaidMore
import Derived.LaidHandle
import Derived.OpenShut
import Derived.Stop.Joined
set_option linter.unusedVariables false
set_option linter.unusedSimpArgs false
namespace Go.Proofs.YtohfbfgggkmibaaGreatDoor
open Go Go.Tm Go.ChangeShapes Go.WideShapes Go.ChangeAt Go.RowKit
theorem FnExactSitHear_j0 : (Rows.fnExactSitHearRow.wf (OpenSpec.ofChange Rows.fnExactSitHearSpec)) = true := by kernel_rfl
theorem FnExactSitHear_j1 : (laidOutB Tryz.prog) = true := by kernel_rfl
theorem FnExactSitHear_j2 : (mapsRowed Tryz.prog) = true := by kernel_rfl
theorem FnExactSitHear_j3 : (Tryz.f6.params.all (Tryz.prog.readableRec ·)) = true := by kernel_rfl
theorem FnExactSitHear_j4 : (namedTie Tryz.prog Rows.fnExactSitHearRow.named Rows.fnExactSitHearSpec.vars) = true := by kernel_rfl
theorem FnExactSitHear_j5 : ((Rows.fnExactSitHearRow.stops == [])) = true := by kernel_rfl
theorem FnExactSitHear_j6 : ((Tryz.prog.stops == [])) = true := by kernel_rfl
theorem FnExactSitHear_j7 : ((Rows.fnExactSitHearRow.knobs == [])) = true := by kernel_rfl
theorem FnExactSitHear_j8 : ((Tryz.prog.stopKnobs == [])) = true := by kernel_rfl
theorem FnExactSitHear_j9 : ((Rows.fnExactSitHearRow.inPlace == Tryz.prog.inPlace 6)) = true := by kernel_rfl
theorem FnExactSitHear_j10 : ((Rows.fnExactSitHearRow.unfollowed == Tryz.prog.unfollowed 6)) = true := by kernel_rfl
end Go.Proofs.YtohfbfgggkmibaaGreatDoor
