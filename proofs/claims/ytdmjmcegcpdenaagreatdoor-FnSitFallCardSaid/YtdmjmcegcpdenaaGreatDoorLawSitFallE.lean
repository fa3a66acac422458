/- The tied card of FnSitFall: for every input it returns true,and its arguments read behind the call as they read before; the listed tables of the library as the program's text lays them. No conditions beyond the given card's own. -/
import Derived.Test.YtdmjmcegcpdenaaGreatDoorCards
import Derived.Test.YtdmjmcegcpdenaaGreatDoorTie
import Derived.Test.YtdmjmcegcpdenaaGreatDoorTd
import Derived.SevenTiedAt
import Derived.ProofKit
import Derived.LaidMore
import Derived.LaidHandle
import Derived.OpenShut
import Derived.Stop.Joined
set_option linter.unusedVariables false
set_option linter.unusedSimpArgs false
namespace Go.Proofs.YtdmjmcegcpdenaaGreatDoor
open Go Go.Tm Go.ChangeShapes Go.WideShapes Go.ChangeAt Go.RowKit
def Jhe (P:Program) (fn:Func) (c:OpenClaim):Bool:=c.kinds == (if c.domain.isEmpty then [] else fn.params.toList.map fun t=>match P.underlying t with | some (.int k)=>some k | _=>none)
theorem FnSitFall_j18:(Rows.fnSitFallSpec.vars.all (Tryz.prog.varReadable ·))=true:=by kernel_rfl
theorem FnSitFall_j19:(Tryz.f6.resultTypes.all (fun t=>Tryz.prog.readableRec t&&decide (t<Tryz.prog.types.size)))=true:=by kernel_rfl
theorem FnSitFall_j20:((Rows.fnSitFallRow.ifacesOut == Tryz.f6.resultTypes.toList.any (Tryz.prog.ifacesRec ·)))=true:=by kernel_rfl
theorem FnSitFall_j21:((Rows.fnSitFallRow.loopsOut == Tryz.f6.resultTypes.toList.any (Tryz.prog.loopsFrom ·)))=true:=by kernel_rfl
theorem FnSitFall_j22:((Rows.fnSitFallRow.plainKeys == Tryz.prog.plainKeys))=true:=by kernel_rfl
theorem FnSitFall_j23:(Rows.fnSitFallRow.shortTexts.isNone)=true:=by kernel_rfl
theorem FnSitFall_j24:(Tryz.prog.stopsHeard)=true:=by kernel_rfl
theorem FnSitFall_j25:(Tryz.prog.mayEnter)=true:=by kernel_rfl
theorem FnSitFall_j26:((Rows.fnSitFallRow.lifted == Tryz.prog.liftsFinal))=true:=by kernel_rfl
theorem FnSitFall_j27:((Tryz.prog.make == some Rows.fnSitFallRow.make))=true:=by kernel_rfl
theorem FnSitFall_j28:(Jhe Tryz.prog Tryz.f6 Rows.fnSitFallRow)=true:=by kernel_rfl
theorem FnSitFall_j29:((Rows.fnSitFallRow.pinned == Rows.fnSitFallRow.pinnedBy))=true:=by kernel_rfl
theorem FnSitFall_j30:((Rows.fnSitFallRow.veiled == (Tryz.f6.params.toList++Rows.fnSitFallSpec.plain.varTypes Tryz.prog++Tryz.f6.resultTypes.toList).any (Tryz.prog.veiledRec ·)))=true:=by kernel_rfl
theorem FnSitFall_j31:(Rows.fnSitFallRow.veiledFits Tryz.prog Tryz.f6.params.toList (Tryz.f6.params.toList++Rows.fnSitFallSpec.plain.varTypes Tryz.prog++Tryz.f6.resultTypes.toList))=true:=by kernel_rfl
end Go.Proofs.YtdmjmcegcpdenaaGreatDoor
