/- The tied card of FnSitGives: for every input it returns true,and its arguments read behind the call as they read before; the listed tables of the library as the program's text lays them. No conditions beyond the given card's own. -/
import Derived.Test.YtofcmnglieaoeaaGreatDoorCards
import Derived.Test.YtofcmnglieaoeaaGreatDoorTie
import Derived.Test.YtofcmnglieaoeaaGreatDoorTd
import Derived.SevenTiedAt
import Derived.ProofKit
import Derived.LaidMore
import Derived.LaidHandle
import Derived.OpenShut
import Derived.Stop.Joined
set_option linter.unusedVariables false
set_option linter.unusedSimpArgs false
namespace Go.Proofs.YtofcmnglieaoeaaGreatDoor
open Go Go.Tm Go.ChangeShapes Go.WideShapes Go.ChangeAt Go.RowKit
theorem FnSitGives_j11:((Rows.fnSitGivesRow.recurses == Tryz.prog.recurses 4))=true:=by kernel_rfl
theorem FnSitGives_j12:((Rows.fnSitGivesRow.named == Tryz.prog.varsNamed 4))=true:=by kernel_rfl
theorem FnSitGives_j13:((Rows.fnSitGivesRow.maps == (Tryz.f4.params.toList++Rows.fnSitGivesSpec.plain.varTypes Tryz.prog).any (Tryz.prog.mapsRec ·)))=true:=by kernel_rfl
theorem FnSitGives_j14:((Rows.fnSitGivesRow.ifaces == (Tryz.f4.params.toList++Rows.fnSitGivesSpec.plain.varTypes Tryz.prog).any (Tryz.prog.ifacesRec ·)))=true:=by kernel_rfl
theorem FnSitGives_j15:((Rows.fnSitGivesRow.mapsOut == Tryz.prog.mapsAmong Tryz.f4.resultTypes.toList))=true:=by kernel_rfl
theorem FnSitGives_j16:((Rows.fnSitGivesRow.loops == (Tryz.f4.params.toList++Rows.fnSitGivesSpec.plain.varTypes Tryz.prog).any (Tryz.prog.loopsFrom ·)))=true:=by kernel_rfl
theorem FnSitGives_j17:((Rows.fnSitGivesRow.wideKeys == (Tryz.f4.params.toList++Rows.fnSitGivesSpec.plain.varTypes Tryz.prog++Tryz.f4.resultTypes.toList).any (Tryz.prog.wideKeysFrom ·)))=true:=by kernel_rfl
end Go.Proofs.YtofcmnglieaoeaaGreatDoor
