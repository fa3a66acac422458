/- The tied card of FnClkFall: for every input it returns true,and its arguments read behind the call as they read before; the listed tables of the library as the program's text lays them. No conditions beyond the given card's own. -/
import Derived.Test.YtofcmnglieaoeabGreatDoorCards
import Derived.Test.YtofcmnglieaoeabGreatDoorTie
import Derived.Test.YtofcmnglieaoeabGreatDoorTd
import Derived.SevenTiedAt
import Derived.ProofKit
import Derived.LaidMore
import Derived.LaidHandle
import Derived.OpenShut
import Derived.Stop.Joined
set_option linter.unusedVariables false
set_option linter.unusedSimpArgs false
namespace Go.Proofs.YtofcmnglieaoeabGreatDoor
open Go Go.Tm Go.ChangeShapes Go.WideShapes Go.ChangeAt Go.RowKit
theorem FnClkFall_j11:((Rows.fnClkFallRow.recurses == Tryz.prog.recurses 3))=true:=by kernel_rfl
theorem FnClkFall_j12:((Rows.fnClkFallRow.named == Tryz.prog.varsNamed 3))=true:=by kernel_rfl
theorem FnClkFall_j13:((Rows.fnClkFallRow.maps == (Tryz.f3.params.toList++Rows.fnClkFallSpec.plain.varTypes Tryz.prog).any (Tryz.prog.mapsRec ·)))=true:=by kernel_rfl
theorem FnClkFall_j14:((Rows.fnClkFallRow.ifaces == (Tryz.f3.params.toList++Rows.fnClkFallSpec.plain.varTypes Tryz.prog).any (Tryz.prog.ifacesRec ·)))=true:=by kernel_rfl
theorem FnClkFall_j15:((Rows.fnClkFallRow.mapsOut == Tryz.prog.mapsAmong Tryz.f3.resultTypes.toList))=true:=by kernel_rfl
theorem FnClkFall_j16:((Rows.fnClkFallRow.loops == (Tryz.f3.params.toList++Rows.fnClkFallSpec.plain.varTypes Tryz.prog).any (Tryz.prog.loopsFrom ·)))=true:=by kernel_rfl
theorem FnClkFall_j17:((Rows.fnClkFallRow.wideKeys == (Tryz.f3.params.toList++Rows.fnClkFallSpec.plain.varTypes Tryz.prog++Tryz.f3.resultTypes.toList).any (Tryz.prog.wideKeysFrom ·)))=true:=by kernel_rfl
end Go.Proofs.YtofcmnglieaoeabGreatDoor
