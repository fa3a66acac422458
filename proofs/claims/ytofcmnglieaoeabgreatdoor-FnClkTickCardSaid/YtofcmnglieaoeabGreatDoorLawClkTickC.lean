/- The tied card of FnClkTick: for every input it returns true,and its arguments read behind the call as they read before; the listed tables of the library as the program's text lays them. No conditions beyond the given card's own. -/
import Derived.Test.YtofcmnglieaoeabGreatDoorCards
import Derived.Test.YtofcmnglieaoeabGreatDoorTie
import Derived.Test.YtofcmnglieaoeabGreatDoorTd
import Derived.SevenTiedAt
import Derived.ProofKit
import Derived.LaidMore
import Derived.LaidHandle
import Derived.OpenShut
import Derived.Stop.Joined
set_option linter.unusedVariables false
set_option linter.unusedSimpArgs false
namespace Go.Proofs.YtofcmnglieaoeabGreatDoor
open Go Go.Tm Go.ChangeShapes Go.WideShapes Go.ChangeAt Go.RowKit
theorem FnClkTick_j0:(Rows.fnClkTickRow.wf (OpenSpec.ofChange Rows.fnClkTickSpec))=true:=by kernel_rfl
theorem FnClkTick_j1:(laidOutB Tryz.prog)=true:=by kernel_rfl
theorem FnClkTick_j2:(mapsRowed Tryz.prog)=true:=by kernel_rfl
theorem FnClkTick_j3:(Tryz.f4.params.all (Tryz.prog.readableRec ·))=true:=by kernel_rfl
theorem FnClkTick_j4:(namedTie Tryz.prog Rows.fnClkTickRow.named Rows.fnClkTickSpec.vars)=true:=by kernel_rfl
theorem FnClkTick_j5:((Rows.fnClkTickRow.stops == []))=true:=by kernel_rfl
theorem FnClkTick_j6:((Tryz.prog.stops == []))=true:=by kernel_rfl
theorem FnClkTick_j7:((Rows.fnClkTickRow.knobs == []))=true:=by kernel_rfl
theorem FnClkTick_j8:((Tryz.prog.stopKnobs == []))=true:=by kernel_rfl
theorem FnClkTick_j9:((Rows.fnClkTickRow.inPlace == Tryz.prog.inPlace 4))=true:=by kernel_rfl
theorem FnClkTick_j10:((Rows.fnClkTickRow.unfollowed == Tryz.prog.unfollowed 4))=true:=by kernel_rfl
end Go.Proofs.YtofcmnglieaoeabGreatDoor
