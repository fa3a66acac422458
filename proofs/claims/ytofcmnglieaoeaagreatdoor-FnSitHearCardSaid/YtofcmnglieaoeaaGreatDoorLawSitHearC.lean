/- The tied card of FnSitHear: for every input it returns true,and its arguments read behind the call as they read before; the listed tables of the library as the program's text lays them. No conditions beyond the given card's own. -/
import Derived.Test.YtofcmnglieaoeaaGreatDoorCards
import Derived.Test.YtofcmnglieaoeaaGreatDoorTie
import Derived.Test.YtofcmnglieaoeaaGreatDoorTd
import Derived.SevenTiedAt
import Derived.ProofKit
import Derived.LaidMore
import Derived.LaidHandle
import Derived.OpenShut
import Derived.Stop.Joined
set_option linter.unusedVariables false
set_option linter.unusedSimpArgs false
namespace Go.Proofs.YtofcmnglieaoeaaGreatDoor
open Go Go.Tm Go.ChangeShapes Go.WideShapes Go.ChangeAt Go.RowKit
theorem FnSitHear_j0:(Rows.fnSitHearRow.wf (OpenSpec.ofChange Rows.fnSitHearSpec))=true:=by kernel_rfl
theorem FnSitHear_j1:(laidOutB Tryz.prog)=true:=by kernel_rfl
theorem FnSitHear_j2:(mapsRowed Tryz.prog)=true:=by kernel_rfl
theorem FnSitHear_j3:(Tryz.f3.params.all (Tryz.prog.readableRec ·))=true:=by kernel_rfl
theorem FnSitHear_j4:(namedTie Tryz.prog Rows.fnSitHearRow.named Rows.fnSitHearSpec.vars)=true:=by kernel_rfl
theorem FnSitHear_j5:((Rows.fnSitHearRow.stops == []))=true:=by kernel_rfl
theorem FnSitHear_j6:((Tryz.prog.stops == []))=true:=by kernel_rfl
theorem FnSitHear_j7:((Rows.fnSitHearRow.knobs == []))=true:=by kernel_rfl
theorem FnSitHear_j8:((Tryz.prog.stopKnobs == []))=true:=by kernel_rfl
theorem FnSitHear_j9:((Rows.fnSitHearRow.inPlace == Tryz.prog.inPlace 3))=true:=by kernel_rfl
theorem FnSitHear_j10:((Rows.fnSitHearRow.unfollowed == Tryz.prog.unfollowed 3))=true:=by kernel_rfl
end Go.Proofs.YtofcmnglieaoeaaGreatDoor
