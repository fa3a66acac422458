/- The tied card of FnClkNext: for every input it returns true,and its arguments read behind the call as they read before; the listed tables of the library as the program's text lays them. No conditions beyond the given card's own. -/
import Derived.Test.YtngcnclchcahlabGreatDoorCards
import Derived.Test.YtngcnclchcahlabGreatDoorTie
import Derived.Test.YtngcnclchcahlabGreatDoorTd
import Derived.SevenTiedAt
import Derived.ProofKit
import Derived.LaidMore
import Derived.LaidHandle
import Derived.OpenShut
import Derived.Stop.Joined
set_option linter.unusedVariables false
set_option linter.unusedSimpArgs false
namespace Go.Proofs.YtngcnclchcahlabGreatDoor
open Go Go.Tm Go.ChangeShapes Go.WideShapes Go.ChangeAt Go.RowKit
theorem FnClkNext_j11:((Rows.fnClkNextRow.recurses == Tryz.prog.recurses 3))=true:=by kernel_rfl
theorem FnClkNext_j12:((Rows.fnClkNextRow.named == Tryz.prog.varsNamed 3))=true:=by kernel_rfl
theorem FnClkNext_j13:((Rows.fnClkNextRow.maps == (Tryz.f3.params.toList++Rows.fnClkNextSpec.plain.varTypes Tryz.prog).any (Tryz.prog.mapsRec ·)))=true:=by kernel_rfl
theorem FnClkNext_j14:((Rows.fnClkNextRow.ifaces == (Tryz.f3.params.toList++Rows.fnClkNextSpec.plain.varTypes Tryz.prog).any (Tryz.prog.ifacesRec ·)))=true:=by kernel_rfl
theorem FnClkNext_j15:((Rows.fnClkNextRow.mapsOut == Tryz.prog.mapsAmong Tryz.f3.resultTypes.toList))=true:=by kernel_rfl
theorem FnClkNext_j16:((Rows.fnClkNextRow.loops == (Tryz.f3.params.toList++Rows.fnClkNextSpec.plain.varTypes Tryz.prog).any (Tryz.prog.loopsFrom ·)))=true:=by kernel_rfl
theorem FnClkNext_j17:((Rows.fnClkNextRow.wideKeys == (Tryz.f3.params.toList++Rows.fnClkNextSpec.plain.varTypes Tryz.prog++Tryz.f3.resultTypes.toList).any (Tryz.prog.wideKeysFrom ·)))=true:=by kernel_rfl
end Go.Proofs.YtngcnclchcahlabGreatDoor
