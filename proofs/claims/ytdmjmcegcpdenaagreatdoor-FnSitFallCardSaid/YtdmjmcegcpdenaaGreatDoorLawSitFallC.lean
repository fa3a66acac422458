/- The tied card of FnSitFall: for every input it returns true,and its arguments read behind the call as they read before; the listed tables of the library as the program's text lays them. No conditions beyond the given card's own. -/
import Derived.Test.YtdmjmcegcpdenaaGreatDoorCards
import Derived.Test.YtdmjmcegcpdenaaGreatDoorTie
import Derived.Test.YtdmjmcegcpdenaaGreatDoorTd
import Derived.SevenTiedAt
import Derived.ProofKit
import Derived.LaidMore
import Derived.LaidHandle
import Derived.OpenShut
import Derived.Stop.Joined
set_option linter.unusedVariables false
set_option linter.unusedSimpArgs false
namespace Go.Proofs.YtdmjmcegcpdenaaGreatDoor
open Go Go.Tm Go.ChangeShapes Go.WideShapes Go.ChangeAt Go.RowKit
theorem FnSitFall_j0:(Rows.fnSitFallRow.wf (OpenSpec.ofChange Rows.fnSitFallSpec))=true:=by kernel_rfl
theorem FnSitFall_j1:(laidOutB Tryz.prog)=true:=by kernel_rfl
theorem FnSitFall_j2:(mapsRowed Tryz.prog)=true:=by kernel_rfl
theorem FnSitFall_j3:(Tryz.f6.params.all (Tryz.prog.readableRec ·))=true:=by kernel_rfl
theorem FnSitFall_j4:(namedTie Tryz.prog Rows.fnSitFallRow.named Rows.fnSitFallSpec.vars)=true:=by kernel_rfl
theorem FnSitFall_j5:((Rows.fnSitFallRow.stops == []))=true:=by kernel_rfl
theorem FnSitFall_j6:((Tryz.prog.stops == []))=true:=by kernel_rfl
theorem FnSitFall_j7:((Rows.fnSitFallRow.knobs == []))=true:=by kernel_rfl
theorem FnSitFall_j8:((Tryz.prog.stopKnobs == []))=true:=by kernel_rfl
theorem FnSitFall_j9:((Rows.fnSitFallRow.inPlace == Tryz.prog.inPlace 6))=true:=by kernel_rfl
theorem FnSitFall_j10:((Rows.fnSitFallRow.unfollowed == Tryz.prog.unfollowed 6))=true:=by kernel_rfl
end Go.Proofs.YtdmjmcegcpdenaaGreatDoor
