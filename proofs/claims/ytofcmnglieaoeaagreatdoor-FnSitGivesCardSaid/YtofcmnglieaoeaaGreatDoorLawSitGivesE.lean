/- The tied card of FnSitGives: for every input it returns true,and its arguments read behind the call as they read before; the listed tables of the library as the program's text lays them. No conditions beyond the given card's own. -/
import Derived.Test.YtofcmnglieaoeaaGreatDoorCards
import Derived.Test.YtofcmnglieaoeaaGreatDoorTie
import Derived.Test.YtofcmnglieaoeaaGreatDoorTd
import Derived.SevenTiedAt
import Derived.ProofKit
import Derived.LaidMore
import Derived.LaidHandle
import Derived.OpenShut
import Derived.Stop.Joined
set_option linter.unusedVariables false
set_option linter.unusedSimpArgs false
namespace Go.Proofs.YtofcmnglieaoeaaGreatDoor
open Go Go.Tm Go.ChangeShapes Go.WideShapes Go.ChangeAt Go.RowKit
def Ji4 (P:Program) (fn:Func) (c:OpenClaim):Bool:=c.kinds == (if c.domain.isEmpty then [] else fn.params.toList.map fun t=>match P.underlying t with | some (.int k)=>some k | _=>none)
theorem FnSitGives_j18:(Rows.fnSitGivesSpec.vars.all (Tryz.prog.varReadable ·))=true:=by kernel_rfl
theorem FnSitGives_j19:(Tryz.f4.resultTypes.all (fun t=>Tryz.prog.readableRec t&&decide (t<Tryz.prog.types.size)))=true:=by kernel_rfl
theorem FnSitGives_j20:((Rows.fnSitGivesRow.ifacesOut == Tryz.f4.resultTypes.toList.any (Tryz.prog.ifacesRec ·)))=true:=by kernel_rfl
theorem FnSitGives_j21:((Rows.fnSitGivesRow.loopsOut == Tryz.f4.resultTypes.toList.any (Tryz.prog.loopsFrom ·)))=true:=by kernel_rfl
theorem FnSitGives_j22:((Rows.fnSitGivesRow.plainKeys == Tryz.prog.plainKeys))=true:=by kernel_rfl
theorem FnSitGives_j23:(Rows.fnSitGivesRow.shortTexts.isNone)=true:=by kernel_rfl
theorem FnSitGives_j24:(Tryz.prog.stopsHeard)=true:=by kernel_rfl
theorem FnSitGives_j25:(Tryz.prog.mayEnter)=true:=by kernel_rfl
theorem FnSitGives_j26:((Rows.fnSitGivesRow.lifted == Tryz.prog.liftsFinal))=true:=by kernel_rfl
theorem FnSitGives_j27:((Tryz.prog.make == some Rows.fnSitGivesRow.make))=true:=by kernel_rfl
theorem FnSitGives_j28:(Ji4 Tryz.prog Tryz.f4 Rows.fnSitGivesRow)=true:=by kernel_rfl
theorem FnSitGives_j29:((Rows.fnSitGivesRow.pinned == Rows.fnSitGivesRow.pinnedBy))=true:=by kernel_rfl
theorem FnSitGives_j30:((Rows.fnSitGivesRow.veiled == (Tryz.f4.params.toList++Rows.fnSitGivesSpec.plain.varTypes Tryz.prog++Tryz.f4.resultTypes.toList).any (Tryz.prog.veiledRec ·)))=true:=by kernel_rfl
theorem FnSitGives_j31:(Rows.fnSitGivesRow.veiledFits Tryz.prog Tryz.f4.params.toList (Tryz.f4.params.toList++Rows.fnSitGivesSpec.plain.varTypes Tryz.prog++Tryz.f4.resultTypes.toList))=true:=by kernel_rfl
end Go.Proofs.YtofcmnglieaoeaaGreatDoor
