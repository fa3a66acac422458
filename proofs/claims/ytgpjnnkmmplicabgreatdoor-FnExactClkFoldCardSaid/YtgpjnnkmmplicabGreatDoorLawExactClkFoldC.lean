/- The tied card of FnExactClkFold: for every input it returns true,and its arguments read behind the call as they read before; the listed tables of the library as the program's text lays them. No conditions beyond the given card's own. -/
import Derived.Test.YtgpjnnkmmplicabGreatDoorCards
import Derived.Test.YtgpjnnkmmplicabGreatDoorTie
import Derived.Test.YtgpjnnkmmplicabGreatDoorTd
import Derived.SevenTiedAt
import Derived.ProofKit
import Derived.LaidMore
import Derived.LaidHandle
import Derived.OpenShut
import Derived.Stop.Joined
set_option linter.unusedVariables false
set_option linter.unusedSimpArgs false
namespace Go.Proofs.YtgpjnnkmmplicabGreatDoor
open Go Go.Tm Go.ChangeShapes Go.WideShapes Go.ChangeAt Go.RowKit
theorem FnExactClkFold_j0:(Rows.fnExactClkFoldRow.wf (OpenSpec.ofChange Rows.fnExactClkFoldSpec))=true:=by kernel_rfl
theorem FnExactClkFold_j1:(laidOutB Tryz.prog)=true:=by kernel_rfl
theorem FnExactClkFold_j2:(mapsRowed Tryz.prog)=true:=by kernel_rfl
theorem FnExactClkFold_j3:(Tryz.f3.params.all (Tryz.prog.readableRec ·))=true:=by kernel_rfl
theorem FnExactClkFold_j4:(namedTie Tryz.prog Rows.fnExactClkFoldRow.named Rows.fnExactClkFoldSpec.vars)=true:=by kernel_rfl
theorem FnExactClkFold_j5:((Rows.fnExactClkFoldRow.stops == []))=true:=by kernel_rfl
theorem FnExactClkFold_j6:((Tryz.prog.stops == []))=true:=by kernel_rfl
theorem FnExactClkFold_j7:((Rows.fnExactClkFoldRow.knobs == []))=true:=by kernel_rfl
theorem FnExactClkFold_j8:((Tryz.prog.stopKnobs == []))=true:=by kernel_rfl
theorem FnExactClkFold_j9:((Rows.fnExactClkFoldRow.inPlace == Tryz.prog.inPlace 3))=true:=by kernel_rfl
theorem FnExactClkFold_j10:((Rows.fnExactClkFoldRow.unfollowed == Tryz.prog.unfollowed 3))=true:=by kernel_rfl
end Go.Proofs.YtgpjnnkmmplicabGreatDoor
