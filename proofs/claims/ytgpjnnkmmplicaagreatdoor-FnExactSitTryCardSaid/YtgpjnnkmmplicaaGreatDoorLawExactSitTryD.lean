/- The tied card of FnExactSitTry: for every input it returns true,and its arguments read behind the call as they read before; the listed tables of the library as the program's text lays them. No conditions beyond the given card's own. -/
import Derived.Test.YtgpjnnkmmplicaaGreatDoorCards
import Derived.Test.YtgpjnnkmmplicaaGreatDoorTie
import Derived.Test.YtgpjnnkmmplicaaGreatDoorTd
import Derived.SevenTiedAt
import Derived.ProofKit
import Derived.LaidMore
import Derived.LaidHandle
import Derived.OpenShut
import Derived.Stop.Joined
set_option linter.unusedVariables false
set_option linter.unusedSimpArgs false
namespace Go.Proofs.YtgpjnnkmmplicaaGreatDoor
open Go Go.Tm Go.ChangeShapes Go.WideShapes Go.ChangeAt Go.RowKit
theorem FnExactSitTry_j11:((Rows.fnExactSitTryRow.recurses == Tryz.prog.recurses 3))=true:=by kernel_rfl
theorem FnExactSitTry_j12:((Rows.fnExactSitTryRow.named == Tryz.prog.varsNamed 3))=true:=by kernel_rfl
theorem FnExactSitTry_j13:((Rows.fnExactSitTryRow.maps == (Tryz.f3.params.toList++Rows.fnExactSitTrySpec.plain.varTypes Tryz.prog).any (Tryz.prog.mapsRec ·)))=true:=by kernel_rfl
theorem FnExactSitTry_j14:((Rows.fnExactSitTryRow.ifaces == (Tryz.f3.params.toList++Rows.fnExactSitTrySpec.plain.varTypes Tryz.prog).any (Tryz.prog.ifacesRec ·)))=true:=by kernel_rfl
theorem FnExactSitTry_j15:((Rows.fnExactSitTryRow.mapsOut == Tryz.prog.mapsAmong Tryz.f3.resultTypes.toList))=true:=by kernel_rfl
theorem FnExactSitTry_j16:((Rows.fnExactSitTryRow.loops == (Tryz.f3.params.toList++Rows.fnExactSitTrySpec.plain.varTypes Tryz.prog).any (Tryz.prog.loopsFrom ·)))=true:=by kernel_rfl
theorem FnExactSitTry_j17:((Rows.fnExactSitTryRow.wideKeys == (Tryz.f3.params.toList++Rows.fnExactSitTrySpec.plain.varTypes Tryz.prog++Tryz.f3.resultTypes.toList).any (Tryz.prog.wideKeysFrom ·)))=true:=by kernel_rfl
end Go.Proofs.YtgpjnnkmmplicaaGreatDoor
