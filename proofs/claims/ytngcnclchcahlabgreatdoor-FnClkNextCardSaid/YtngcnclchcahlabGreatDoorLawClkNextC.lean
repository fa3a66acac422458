/- The tied card of FnClkNext: for every input it returns true,and its arguments read behind the call as they read before; the listed tables of the library as the program's text lays them. No conditions beyond the given card's own. -/
import Derived.Test.YtngcnclchcahlabGreatDoorCards
import Derived.Test.YtngcnclchcahlabGreatDoorTie
import Derived.Test.YtngcnclchcahlabGreatDoorTd
import Derived.SevenTiedAt
import Derived.ProofKit
import Derived.LaidMore
import Derived.LaidHandle
import Derived.OpenShut
import Derived.Stop.Joined
set_option linter.unusedVariables false
set_option linter.unusedSimpArgs false
namespace Go.Proofs.YtngcnclchcahlabGreatDoor
open Go Go.Tm Go.ChangeShapes Go.WideShapes Go.ChangeAt Go.RowKit
theorem FnClkNext_j0:(Rows.fnClkNextRow.wf (OpenSpec.ofChange Rows.fnClkNextSpec))=true:=by kernel_rfl
theorem FnClkNext_j1:(laidOutB Tryz.prog)=true:=by kernel_rfl
theorem FnClkNext_j2:(mapsRowed Tryz.prog)=true:=by kernel_rfl
theorem FnClkNext_j3:(Tryz.f3.params.all (Tryz.prog.readableRec ·))=true:=by kernel_rfl
theorem FnClkNext_j4:(namedTie Tryz.prog Rows.fnClkNextRow.named Rows.fnClkNextSpec.vars)=true:=by kernel_rfl
theorem FnClkNext_j5:((Rows.fnClkNextRow.stops == []))=true:=by kernel_rfl
theorem FnClkNext_j6:((Tryz.prog.stops == []))=true:=by kernel_rfl
theorem FnClkNext_j7:((Rows.fnClkNextRow.knobs == []))=true:=by kernel_rfl
theorem FnClkNext_j8:((Tryz.prog.stopKnobs == []))=true:=by kernel_rfl
theorem FnClkNext_j9:((Rows.fnClkNextRow.inPlace == Tryz.prog.inPlace 3))=true:=by kernel_rfl
theorem FnClkNext_j10:((Rows.fnClkNextRow.unfollowed == Tryz.prog.unfollowed 3))=true:=by kernel_rfl
end Go.Proofs.YtngcnclchcahlabGreatDoor
