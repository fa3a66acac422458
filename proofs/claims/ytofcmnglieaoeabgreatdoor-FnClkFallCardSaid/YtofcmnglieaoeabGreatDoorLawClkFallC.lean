/- The tied card of FnClkFall: for every input it returns true,and its arguments read behind the call as they read before; the listed tables of the library as the program's text lays them. No conditions beyond the given card's own. -/
import Derived.Test.YtofcmnglieaoeabGreatDoorCards
import Derived.Test.YtofcmnglieaoeabGreatDoorTie
import Derived.Test.YtofcmnglieaoeabGreatDoorTd
import Derived.SevenTiedAt
import Derived.ProofKit
import Derived.LaidMore
import Derived.LaidHandle
import Derived.OpenShut
import Derived.Stop.Joined
set_option linter.unusedVariables false
set_option linter.unusedSimpArgs false
namespace Go.Proofs.YtofcmnglieaoeabGreatDoor
open Go Go.Tm Go.ChangeShapes Go.WideShapes Go.ChangeAt Go.RowKit
theorem FnClkFall_j0:(Rows.fnClkFallRow.wf (OpenSpec.ofChange Rows.fnClkFallSpec))=true:=by kernel_rfl
theorem FnClkFall_j1:(laidOutB Tryz.prog)=true:=by kernel_rfl
theorem FnClkFall_j2:(mapsRowed Tryz.prog)=true:=by kernel_rfl
theorem FnClkFall_j3:(Tryz.f3.params.all (Tryz.prog.readableRec ·))=true:=by kernel_rfl
theorem FnClkFall_j4:(namedTie Tryz.prog Rows.fnClkFallRow.named Rows.fnClkFallSpec.vars)=true:=by kernel_rfl
theorem FnClkFall_j5:((Rows.fnClkFallRow.stops == []))=true:=by kernel_rfl
theorem FnClkFall_j6:((Tryz.prog.stops == []))=true:=by kernel_rfl
theorem FnClkFall_j7:((Rows.fnClkFallRow.knobs == []))=true:=by kernel_rfl
theorem FnClkFall_j8:((Tryz.prog.stopKnobs == []))=true:=by kernel_rfl
theorem FnClkFall_j9:((Rows.fnClkFallRow.inPlace == Tryz.prog.inPlace 3))=true:=by kernel_rfl
theorem FnClkFall_j10:((Rows.fnClkFallRow.unfollowed == Tryz.prog.unfollowed 3))=true:=by kernel_rfl
end Go.Proofs.YtofcmnglieaoeabGreatDoor
