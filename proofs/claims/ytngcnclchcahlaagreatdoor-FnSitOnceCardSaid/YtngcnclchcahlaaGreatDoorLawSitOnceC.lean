/- The tied card of FnSitOnce: for every input it returns true,and its arguments read behind the call as they read before; the listed tables of the library as the program's text lays them. No conditions beyond the given card's own. -/
import Derived.Test.YtngcnclchcahlaaGreatDoorCards
import Derived.Test.YtngcnclchcahlaaGreatDoorTie
import Derived.Test.YtngcnclchcahlaaGreatDoorTd
import Derived.SevenTiedAt
import Derived.ProofKit
import Derived.LaidMore
import Derived.LaidHandle
import Derived.OpenShut
import Derived.Stop.Joined
set_option linter.unusedVariables false
set_option linter.unusedSimpArgs false
namespace Go.Proofs.YtngcnclchcahlaaGreatDoor
open Go Go.Tm Go.ChangeShapes Go.WideShapes Go.ChangeAt Go.RowKit
theorem FnSitOnce_j0:(Rows.fnSitOnceRow.wf (OpenSpec.ofChange Rows.fnSitOnceSpec))=true:=by kernel_rfl
theorem FnSitOnce_j1:(laidOutB Tryz.prog)=true:=by kernel_rfl
theorem FnSitOnce_j2:(mapsRowed Tryz.prog)=true:=by kernel_rfl
theorem FnSitOnce_j3:(Tryz.f3.params.all (Tryz.prog.readableRec ·))=true:=by kernel_rfl
theorem FnSitOnce_j4:(namedTie Tryz.prog Rows.fnSitOnceRow.named Rows.fnSitOnceSpec.vars)=true:=by kernel_rfl
theorem FnSitOnce_j5:((Rows.fnSitOnceRow.stops == []))=true:=by kernel_rfl
theorem FnSitOnce_j6:((Tryz.prog.stops == []))=true:=by kernel_rfl
theorem FnSitOnce_j7:((Rows.fnSitOnceRow.knobs == []))=true:=by kernel_rfl
theorem FnSitOnce_j8:((Tryz.prog.stopKnobs == []))=true:=by kernel_rfl
theorem FnSitOnce_j9:((Rows.fnSitOnceRow.inPlace == Tryz.prog.inPlace 3))=true:=by kernel_rfl
theorem FnSitOnce_j10:((Rows.fnSitOnceRow.unfollowed == Tryz.prog.unfollowed 3))=true:=by kernel_rfl
end Go.Proofs.YtngcnclchcahlaaGreatDoor
