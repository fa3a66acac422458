/- The tied card of FnExactSitHear: for every input it returns true,and its arguments read behind the call as they read before; the listed tables of the library as the program's text lays them. No conditions beyond the given card's own. -/
import Derived.Test.YtohfbfgggkmibaaGreatDoorCards
import Derived.Test.YtohfbfgggkmibaaGreatDoorTie
import Derived.Test.YtohfbfgggkmibaaGreatDoorTd
import Derived.SevenTiedAt
import Derived.ProofKit
import Derived.LaidMore
import Derived.LaidHandle
import Derived.OpenShut
import Derived.Stop.Joined
set_option linter.unusedVariables false
set_option linter.unusedSimpArgs false
namespace Go.Proofs.YtohfbfgggkmibaaGreatDoor
open Go Go.Tm Go.ChangeShapes Go.WideShapes Go.ChangeAt Go.RowKit
theorem FnExactSitHear_j11 : ((Rows.fnExactSitHearRow.recurses == Tryz.prog.recurses 6)) = true := by kernel_rfl
theorem FnExactSitHear_j12 : ((Rows.fnExactSitHearRow.named == Tryz.prog.varsNamed 6)) = true := by kernel_rfl
theorem FnExactSitHear_j13 : ((Rows.fnExactSitHearRow.maps == (Tryz.f6.params.toList ++ Rows.fnExactSitHearSpec.plain.varTypes Tryz.prog).any (Tryz.prog.mapsRec ·))) = true := by kernel_rfl
theorem FnExactSitHear_j14 : ((Rows.fnExactSitHearRow.ifaces == (Tryz.f6.params.toList ++ Rows.fnExactSitHearSpec.plain.varTypes Tryz.prog).any (Tryz.prog.ifacesRec ·))) = true := by kernel_rfl
theorem FnExactSitHear_j15 : ((Rows.fnExactSitHearRow.mapsOut == Tryz.prog.mapsAmong Tryz.f6.resultTypes.toList)) = true := by kernel_rfl
theorem FnExactSitHear_j16 : ((Rows.fnExactSitHearRow.loops == (Tryz.f6.params.toList ++ Rows.fnExactSitHearSpec.plain.varTypes Tryz.prog).any (Tryz.prog.loopsFrom ·))) = true := by kernel_rfl
theorem FnExactSitHear_j17 : ((Rows.fnExactSitHearRow.wideKeys == (Tryz.f6.params.toList ++ Rows.fnExactSitHearSpec.plain.varTypes Tryz.prog ++ Tryz.f6.resultTypes.toList).any (Tryz.prog.wideKeysFrom ·))) = true := by kernel_rfl
end Go.Proofs.YtohfbfgggkmibaaGreatDoor
