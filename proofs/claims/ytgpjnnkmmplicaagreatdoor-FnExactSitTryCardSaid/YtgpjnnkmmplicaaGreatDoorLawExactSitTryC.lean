/- The tied card of FnExactSitTry: for every input it returns true,and its arguments read behind the call as they read before; the listed tables of the library as the program's text lays them. No conditions beyond the given card's own. -/
import Derived.Test.YtgpjnnkmmplicaaGreatDoorCards
import Derived.Test.YtgpjnnkmmplicaaGreatDoorTie
import Derived.Test.YtgpjnnkmmplicaaGreatDoorTd
import Derived.SevenTiedAt
import Derived.ProofKit
import Derived.LaidMore
import Derived.LaidHandle
import Derived.OpenShut
import Derived.Stop.Joined
set_option linter.unusedVariables false
set_option linter.unusedSimpArgs false
namespace Go.Proofs.YtgpjnnkmmplicaaGreatDoor
open Go Go.Tm Go.ChangeShapes Go.WideShapes Go.ChangeAt Go.RowKit
theorem FnExactSitTry_j0:(Rows.fnExactSitTryRow.wf (OpenSpec.ofChange Rows.fnExactSitTrySpec))=true:=by kernel_rfl
theorem FnExactSitTry_j1:(laidOutB Tryz.prog)=true:=by kernel_rfl
theorem FnExactSitTry_j2:(mapsRowed Tryz.prog)=true:=by kernel_rfl
theorem FnExactSitTry_j3:(Tryz.f3.params.all (Tryz.prog.readableRec ·))=true:=by kernel_rfl
theorem FnExactSitTry_j4:(namedTie Tryz.prog Rows.fnExactSitTryRow.named Rows.fnExactSitTrySpec.vars)=true:=by kernel_rfl
theorem FnExactSitTry_j5:((Rows.fnExactSitTryRow.stops == []))=true:=by kernel_rfl
theorem FnExactSitTry_j6:((Tryz.prog.stops == []))=true:=by kernel_rfl
theorem FnExactSitTry_j7:((Rows.fnExactSitTryRow.knobs == []))=true:=by kernel_rfl
theorem FnExactSitTry_j8:((Tryz.prog.stopKnobs == []))=true:=by kernel_rfl
theorem FnExactSitTry_j9:((Rows.fnExactSitTryRow.inPlace == Tryz.prog.inPlace 3))=true:=by kernel_rfl
theorem FnExactSitTry_j10:((Rows.fnExactSitTryRow.unfollowed == Tryz.prog.unfollowed 3))=true:=by kernel_rfl
end Go.Proofs.YtgpjnnkmmplicaaGreatDoor
