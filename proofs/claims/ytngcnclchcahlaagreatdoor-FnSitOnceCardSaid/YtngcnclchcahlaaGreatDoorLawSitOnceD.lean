/- The tied card of FnSitOnce: for every input it returns true,and its arguments read behind the call as they read before; the listed tables of the library as the program's text lays them. No conditions beyond the given card's own. -/
import Derived.Test.YtngcnclchcahlaaGreatDoorCards
import Derived.Test.YtngcnclchcahlaaGreatDoorTie
import Derived.Test.YtngcnclchcahlaaGreatDoorTd
import Derived.SevenTiedAt
import Derived.ProofKit
import Derived.LaidMore
import Derived.LaidHandle
import Derived.OpenShut
import Derived.Stop.Joined
set_option linter.unusedVariables false
set_option linter.unusedSimpArgs false
namespace Go.Proofs.YtngcnclchcahlaaGreatDoor
open Go Go.Tm Go.ChangeShapes Go.WideShapes Go.ChangeAt Go.RowKit
theorem FnSitOnce_j11:((Rows.fnSitOnceRow.recurses == Tryz.prog.recurses 3))=true:=by kernel_rfl
theorem FnSitOnce_j12:((Rows.fnSitOnceRow.named == Tryz.prog.varsNamed 3))=true:=by kernel_rfl
theorem FnSitOnce_j13:((Rows.fnSitOnceRow.maps == (Tryz.f3.params.toList++Rows.fnSitOnceSpec.plain.varTypes Tryz.prog).any (Tryz.prog.mapsRec ·)))=true:=by kernel_rfl
theorem FnSitOnce_j14:((Rows.fnSitOnceRow.ifaces == (Tryz.f3.params.toList++Rows.fnSitOnceSpec.plain.varTypes Tryz.prog).any (Tryz.prog.ifacesRec ·)))=true:=by kernel_rfl
theorem FnSitOnce_j15:((Rows.fnSitOnceRow.mapsOut == Tryz.prog.mapsAmong Tryz.f3.resultTypes.toList))=true:=by kernel_rfl
theorem FnSitOnce_j16:((Rows.fnSitOnceRow.loops == (Tryz.f3.params.toList++Rows.fnSitOnceSpec.plain.varTypes Tryz.prog).any (Tryz.prog.loopsFrom ·)))=true:=by kernel_rfl
theorem FnSitOnce_j17:((Rows.fnSitOnceRow.wideKeys == (Tryz.f3.params.toList++Rows.fnSitOnceSpec.plain.varTypes Tryz.prog++Tryz.f3.resultTypes.toList).any (Tryz.prog.wideKeysFrom ·)))=true:=by kernel_rfl
end Go.Proofs.YtngcnclchcahlaaGreatDoor
