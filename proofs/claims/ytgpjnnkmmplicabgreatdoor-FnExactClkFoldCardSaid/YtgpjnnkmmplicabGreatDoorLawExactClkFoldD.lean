/- The tied card of FnExactClkFold: for every input it returns true,and its arguments read behind the call as they read before; the listed tables of the library as the program's text lays them. No conditions beyond the given card's own. -/
import Derived.Test.YtgpjnnkmmplicabGreatDoorCards
import Derived.Test.YtgpjnnkmmplicabGreatDoorTie
import Derived.Test.YtgpjnnkmmplicabGreatDoorTd
import Derived.SevenTiedAt
import Derived.ProofKit
import Derived.LaidMore
import Derived.LaidHandle
import Derived.OpenShut
import Derived.Stop.Joined
set_option linter.unusedVariables false
set_option linter.unusedSimpArgs false
namespace Go.Proofs.YtgpjnnkmmplicabGreatDoor
open Go Go.Tm Go.ChangeShapes Go.WideShapes Go.ChangeAt Go.RowKit
theorem FnExactClkFold_j11:((Rows.fnExactClkFoldRow.recurses == Tryz.prog.recurses 3))=true:=by kernel_rfl
theorem FnExactClkFold_j12:((Rows.fnExactClkFoldRow.named == Tryz.prog.varsNamed 3))=true:=by kernel_rfl
theorem FnExactClkFold_j13:((Rows.fnExactClkFoldRow.maps == (Tryz.f3.params.toList++Rows.fnExactClkFoldSpec.plain.varTypes Tryz.prog).any (Tryz.prog.mapsRec ·)))=true:=by kernel_rfl
theorem FnExactClkFold_j14:((Rows.fnExactClkFoldRow.ifaces == (Tryz.f3.params.toList++Rows.fnExactClkFoldSpec.plain.varTypes Tryz.prog).any (Tryz.prog.ifacesRec ·)))=true:=by kernel_rfl
theorem FnExactClkFold_j15:((Rows.fnExactClkFoldRow.mapsOut == Tryz.prog.mapsAmong Tryz.f3.resultTypes.toList))=true:=by kernel_rfl
theorem FnExactClkFold_j16:((Rows.fnExactClkFoldRow.loops == (Tryz.f3.params.toList++Rows.fnExactClkFoldSpec.plain.varTypes Tryz.prog).any (Tryz.prog.loopsFrom ·)))=true:=by kernel_rfl
theorem FnExactClkFold_j17:((Rows.fnExactClkFoldRow.wideKeys == (Tryz.f3.params.toList++Rows.fnExactClkFoldSpec.plain.varTypes Tryz.prog++Tryz.f3.resultTypes.toList).any (Tryz.prog.wideKeysFrom ·)))=true:=by kernel_rfl
end Go.Proofs.YtgpjnnkmmplicabGreatDoor
