/- The tied card of FnClkTick: for every input it returns true,and its arguments read behind the call as they read before; the listed tables of the library as the program's text lays them. No conditions beyond the given card's own. -/
import Derived.Test.YtofcmnglieaoeabGreatDoorCards
import Derived.Test.YtofcmnglieaoeabGreatDoorTie
import Derived.Test.YtofcmnglieaoeabGreatDoorTd
import Derived.SevenTiedAt
import Derived.ProofKit
import Derived.LaidMore
import Derived.LaidHandle
import Derived.OpenShut
import Derived.Stop.Joined
set_option linter.unusedVariables false
set_option linter.unusedSimpArgs false
namespace Go.Proofs.YtofcmnglieaoeabGreatDoor
open Go Go.Tm Go.ChangeShapes Go.WideShapes Go.ChangeAt Go.RowKit
theorem FnClkTick_j11:((Rows.fnClkTickRow.recurses == Tryz.prog.recurses 4))=true:=by kernel_rfl
theorem FnClkTick_j12:((Rows.fnClkTickRow.named == Tryz.prog.varsNamed 4))=true:=by kernel_rfl
theorem FnClkTick_j13:((Rows.fnClkTickRow.maps == (Tryz.f4.params.toList++Rows.fnClkTickSpec.plain.varTypes Tryz.prog).any (Tryz.prog.mapsRec ·)))=true:=by kernel_rfl
theorem FnClkTick_j14:((Rows.fnClkTickRow.ifaces == (Tryz.f4.params.toList++Rows.fnClkTickSpec.plain.varTypes Tryz.prog).any (Tryz.prog.ifacesRec ·)))=true:=by kernel_rfl
theorem FnClkTick_j15:((Rows.fnClkTickRow.mapsOut == Tryz.prog.mapsAmong Tryz.f4.resultTypes.toList))=true:=by kernel_rfl
theorem FnClkTick_j16:((Rows.fnClkTickRow.loops == (Tryz.f4.params.toList++Rows.fnClkTickSpec.plain.varTypes Tryz.prog).any (Tryz.prog.loopsFrom ·)))=true:=by kernel_rfl
theorem FnClkTick_j17:((Rows.fnClkTickRow.wideKeys == (Tryz.f4.params.toList++Rows.fnClkTickSpec.plain.varTypes Tryz.prog++Tryz.f4.resultTypes.toList).any (Tryz.prog.wideKeysFrom ·)))=true:=by kernel_rfl
end Go.Proofs.YtofcmnglieaoeabGreatDoor
