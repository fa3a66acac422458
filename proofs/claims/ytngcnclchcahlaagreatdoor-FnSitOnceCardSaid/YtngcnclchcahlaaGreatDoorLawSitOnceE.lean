/- The tied card of FnSitOnce: for every input it returns true,and its arguments read behind the call as they read before; the listed tables of the library as the program's text lays them. No conditions beyond the given card's own. -/
import Derived.Test.YtngcnclchcahlaaGreatDoorCards
import Derived.Test.YtngcnclchcahlaaGreatDoorTie
import Derived.Test.YtngcnclchcahlaaGreatDoorTd
import Derived.SevenTiedAt
import Derived.ProofKit
import Derived.LaidMore
import Derived.LaidHandle
import Derived.OpenShut
import Derived.Stop.Joined
set_option linter.unusedVariables false
set_option linter.unusedSimpArgs false
namespace Go.Proofs.YtngcnclchcahlaaGreatDoor
open Go Go.Tm Go.ChangeShapes Go.WideShapes Go.ChangeAt Go.RowKit
def JhF (P:Program) (fn:Func) (c:OpenClaim):Bool:=c.kinds == (if c.domain.isEmpty then [] else fn.params.toList.map fun t=>match P.underlying t with | some (.int k)=>some k | _=>none)
theorem FnSitOnce_j18:(Rows.fnSitOnceSpec.vars.all (Tryz.prog.varReadable ·))=true:=by kernel_rfl
theorem FnSitOnce_j19:(Tryz.f3.resultTypes.all (fun t=>Tryz.prog.readableRec t&&decide (t<Tryz.prog.types.size)))=true:=by kernel_rfl
theorem FnSitOnce_j20:((Rows.fnSitOnceRow.ifacesOut == Tryz.f3.resultTypes.toList.any (Tryz.prog.ifacesRec ·)))=true:=by kernel_rfl
theorem FnSitOnce_j21:((Rows.fnSitOnceRow.loopsOut == Tryz.f3.resultTypes.toList.any (Tryz.prog.loopsFrom ·)))=true:=by kernel_rfl
theorem FnSitOnce_j22:((Rows.fnSitOnceRow.plainKeys == Tryz.prog.plainKeys))=true:=by kernel_rfl
theorem FnSitOnce_j23:(Rows.fnSitOnceRow.shortTexts.isNone)=true:=by kernel_rfl
theorem FnSitOnce_j24:(Tryz.prog.stopsHeard)=true:=by kernel_rfl
theorem FnSitOnce_j25:(Tryz.prog.mayEnter)=true:=by kernel_rfl
theorem FnSitOnce_j26:((Rows.fnSitOnceRow.lifted == Tryz.prog.liftsFinal))=true:=by kernel_rfl
theorem FnSitOnce_j27:((Tryz.prog.make == some Rows.fnSitOnceRow.make))=true:=by kernel_rfl
theorem FnSitOnce_j28:(JhF Tryz.prog Tryz.f3 Rows.fnSitOnceRow)=true:=by kernel_rfl
theorem FnSitOnce_j29:((Rows.fnSitOnceRow.pinned == Rows.fnSitOnceRow.pinnedBy))=true:=by kernel_rfl
theorem FnSitOnce_j30:((Rows.fnSitOnceRow.veiled == (Tryz.f3.params.toList++Rows.fnSitOnceSpec.plain.varTypes Tryz.prog++Tryz.f3.resultTypes.toList).any (Tryz.prog.veiledRec ·)))=true:=by kernel_rfl
theorem FnSitOnce_j31:(Rows.fnSitOnceRow.veiledFits Tryz.prog Tryz.f3.params.toList (Tryz.f3.params.toList++Rows.fnSitOnceSpec.plain.varTypes Tryz.prog++Tryz.f3.resultTypes.toList))=true:=by kernel_rfl
end Go.Proofs.YtngcnclchcahlaaGreatDoor
