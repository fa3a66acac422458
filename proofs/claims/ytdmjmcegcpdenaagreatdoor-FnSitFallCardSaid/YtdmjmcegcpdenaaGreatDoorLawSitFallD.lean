/- The tied card of FnSitFall: for every input it returns true,and its arguments read behind the call as they read before; the listed tables of the library as the program's text lays them. No conditions beyond the given card's own. -/
import Derived.Test.YtdmjmcegcpdenaaGreatDoorCards
import Derived.Test.YtdmjmcegcpdenaaGreatDoorTie
import Derived.Test.YtdmjmcegcpdenaaGreatDoorTd
import Derived.SevenTiedAt
import Derived.ProofKit
import Derived.LaidMore
import Derived.LaidHandle
import Derived.OpenShut
import Derived.Stop.Joined
set_option linter.unusedVariables false
set_option linter.unusedSimpArgs false
namespace Go.Proofs.YtdmjmcegcpdenaaGreatDoor
open Go Go.Tm Go.ChangeShapes Go.WideShapes Go.ChangeAt Go.RowKit
theorem FnSitFall_j11:((Rows.fnSitFallRow.recurses == Tryz.prog.recurses 6))=true:=by kernel_rfl
theorem FnSitFall_j12:((Rows.fnSitFallRow.named == Tryz.prog.varsNamed 6))=true:=by kernel_rfl
theorem FnSitFall_j13:((Rows.fnSitFallRow.maps == (Tryz.f6.params.toList++Rows.fnSitFallSpec.plain.varTypes Tryz.prog).any (Tryz.prog.mapsRec ·)))=true:=by kernel_rfl
theorem FnSitFall_j14:((Rows.fnSitFallRow.ifaces == (Tryz.f6.params.toList++Rows.fnSitFallSpec.plain.varTypes Tryz.prog).any (Tryz.prog.ifacesRec ·)))=true:=by kernel_rfl
theorem FnSitFall_j15:((Rows.fnSitFallRow.mapsOut == Tryz.prog.mapsAmong Tryz.f6.resultTypes.toList))=true:=by kernel_rfl
theorem FnSitFall_j16:((Rows.fnSitFallRow.loops == (Tryz.f6.params.toList++Rows.fnSitFallSpec.plain.varTypes Tryz.prog).any (Tryz.prog.loopsFrom ·)))=true:=by kernel_rfl
theorem FnSitFall_j17:((Rows.fnSitFallRow.wideKeys == (Tryz.f6.params.toList++Rows.fnSitFallSpec.plain.varTypes Tryz.prog++Tryz.f6.resultTypes.toList).any (Tryz.prog.wideKeysFrom ·)))=true:=by kernel_rfl
end Go.Proofs.YtdmjmcegcpdenaaGreatDoor
