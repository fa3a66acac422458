/- The tied card of FnSitGives: for every input it returns true,and its arguments read behind the call as they read before; the listed tables of the library as the program's text lays them. No conditions beyond the given card's own. -/
import Derived.Test.YtofcmnglieaoeaaGreatDoorCards
import Derived.Test.YtofcmnglieaoeaaGreatDoorTie
import Derived.Test.YtofcmnglieaoeaaGreatDoorTd
import Derived.SevenTiedAt
import Derived.ProofKit
import Derived.LaidMore
import Derived.LaidHandle
import Derived.OpenShut
import Derived.Stop.Joined
set_option linter.unusedVariables false
set_option linter.unusedSimpArgs false
namespace Go.Proofs.YtofcmnglieaoeaaGreatDoor
open Go Go.Tm Go.ChangeShapes Go.WideShapes Go.ChangeAt Go.RowKit
theorem FnSitGives_j0:(Rows.fnSitGivesRow.wf (OpenSpec.ofChange Rows.fnSitGivesSpec))=true:=by kernel_rfl
theorem FnSitGives_j1:(laidOutB Tryz.prog)=true:=by kernel_rfl
theorem FnSitGives_j2:(mapsRowed Tryz.prog)=true:=by kernel_rfl
theorem FnSitGives_j3:(Tryz.f4.params.all (Tryz.prog.readableRec ·))=true:=by kernel_rfl
theorem FnSitGives_j4:(namedTie Tryz.prog Rows.fnSitGivesRow.named Rows.fnSitGivesSpec.vars)=true:=by kernel_rfl
theorem FnSitGives_j5:((Rows.fnSitGivesRow.stops == []))=true:=by kernel_rfl
theorem FnSitGives_j6:((Tryz.prog.stops == []))=true:=by kernel_rfl
theorem FnSitGives_j7:((Rows.fnSitGivesRow.knobs == []))=true:=by kernel_rfl
theorem FnSitGives_j8:((Tryz.prog.stopKnobs == []))=true:=by kernel_rfl
theorem FnSitGives_j9:((Rows.fnSitGivesRow.inPlace == Tryz.prog.inPlace 4))=true:=by kernel_rfl
theorem FnSitGives_j10:((Rows.fnSitGivesRow.unfollowed == Tryz.prog.unfollowed 4))=true:=by kernel_rfl
end Go.Proofs.YtofcmnglieaoeaaGreatDoor
