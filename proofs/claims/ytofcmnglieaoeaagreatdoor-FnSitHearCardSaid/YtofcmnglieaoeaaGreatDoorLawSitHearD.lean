/- The tied card of FnSitHear: for every input it returns true,and its arguments read behind the call as they read before; the listed tables of the library as the program's text lays them. No conditions beyond the given card's own. -/
import Derived.Test.YtofcmnglieaoeaaGreatDoorCards
import Derived.Test.YtofcmnglieaoeaaGreatDoorTie
import Derived.Test.YtofcmnglieaoeaaGreatDoorTd
import Derived.SevenTiedAt
import Derived.ProofKit
import Derived.LaidMore
import Derived.LaidHandle
import Derived.OpenShut
import Derived.Stop.Joined
set_option linter.unusedVariables false
set_option linter.unusedSimpArgs false
namespace Go.Proofs.YtofcmnglieaoeaaGreatDoor
open Go Go.Tm Go.ChangeShapes Go.WideShapes Go.ChangeAt Go.RowKit
theorem FnSitHear_j11:((Rows.fnSitHearRow.recurses == Tryz.prog.recurses 3))=true:=by kernel_rfl
theorem FnSitHear_j12:((Rows.fnSitHearRow.named == Tryz.prog.varsNamed 3))=true:=by kernel_rfl
theorem FnSitHear_j13:((Rows.fnSitHearRow.maps == (Tryz.f3.params.toList++Rows.fnSitHearSpec.plain.varTypes Tryz.prog).any (Tryz.prog.mapsRec ·)))=true:=by kernel_rfl
theorem FnSitHear_j14:((Rows.fnSitHearRow.ifaces == (Tryz.f3.params.toList++Rows.fnSitHearSpec.plain.varTypes Tryz.prog).any (Tryz.prog.ifacesRec ·)))=true:=by kernel_rfl
theorem FnSitHear_j15:((Rows.fnSitHearRow.mapsOut == Tryz.prog.mapsAmong Tryz.f3.resultTypes.toList))=true:=by kernel_rfl
theorem FnSitHear_j16:((Rows.fnSitHearRow.loops == (Tryz.f3.params.toList++Rows.fnSitHearSpec.plain.varTypes Tryz.prog).any (Tryz.prog.loopsFrom ·)))=true:=by kernel_rfl
theorem FnSitHear_j17:((Rows.fnSitHearRow.wideKeys == (Tryz.f3.params.toList++Rows.fnSitHearSpec.plain.varTypes Tryz.prog++Tryz.f3.resultTypes.toList).any (Tryz.prog.wideKeysFrom ·)))=true:=by kernel_rfl
end Go.Proofs.YtofcmnglieaoeaaGreatDoor
