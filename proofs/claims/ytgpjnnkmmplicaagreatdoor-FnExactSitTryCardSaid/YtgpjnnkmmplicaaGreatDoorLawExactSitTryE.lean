/- The tied card of FnExactSitTry: for every input it returns true,and its arguments read behind the call as they read before; the listed tables of the library as the program's text lays them. No conditions beyond the given card's own. -/
import Derived.Test.YtgpjnnkmmplicaaGreatDoorCards
import Derived.Test.YtgpjnnkmmplicaaGreatDoorTie
import Derived.Test.YtgpjnnkmmplicaaGreatDoorTd
import Derived.SevenTiedAt
import Derived.ProofKit
import Derived.LaidMore
import Derived.LaidHandle
import Derived.OpenShut
import Derived.Stop.Joined
set_option linter.unusedVariables false
set_option linter.unusedSimpArgs false
namespace Go.Proofs.YtgpjnnkmmplicaaGreatDoor
open Go Go.Tm Go.ChangeShapes Go.WideShapes Go.ChangeAt Go.RowKit
def Jgs (P:Program) (fn:Func) (c:OpenClaim):Bool:=c.kinds == (if c.domain.isEmpty then [] else fn.params.toList.map fun t=>match P.underlying t with | some (.int k)=>some k | _=>none)
theorem FnExactSitTry_j18:(Rows.fnExactSitTrySpec.vars.all (Tryz.prog.varReadable ·))=true:=by kernel_rfl
theorem FnExactSitTry_j19:(Tryz.f3.resultTypes.all (fun t=>Tryz.prog.readableRec t&&decide (t<Tryz.prog.types.size)))=true:=by kernel_rfl
theorem FnExactSitTry_j20:((Rows.fnExactSitTryRow.ifacesOut == Tryz.f3.resultTypes.toList.any (Tryz.prog.ifacesRec ·)))=true:=by kernel_rfl
theorem FnExactSitTry_j21:((Rows.fnExactSitTryRow.loopsOut == Tryz.f3.resultTypes.toList.any (Tryz.prog.loopsFrom ·)))=true:=by kernel_rfl
theorem FnExactSitTry_j22:((Rows.fnExactSitTryRow.plainKeys == Tryz.prog.plainKeys))=true:=by kernel_rfl
theorem FnExactSitTry_j23:(Rows.fnExactSitTryRow.shortTexts.isNone)=true:=by kernel_rfl
theorem FnExactSitTry_j24:(Tryz.prog.stopsHeard)=true:=by kernel_rfl
theorem FnExactSitTry_j25:(Tryz.prog.mayEnter)=true:=by kernel_rfl
theorem FnExactSitTry_j26:((Rows.fnExactSitTryRow.lifted == Tryz.prog.liftsFinal))=true:=by kernel_rfl
theorem FnExactSitTry_j27:((Tryz.prog.make == some Rows.fnExactSitTryRow.make))=true:=by kernel_rfl
theorem FnExactSitTry_j28:(Jgs Tryz.prog Tryz.f3 Rows.fnExactSitTryRow)=true:=by kernel_rfl
theorem FnExactSitTry_j29:((Rows.fnExactSitTryRow.pinned == Rows.fnExactSitTryRow.pinnedBy))=true:=by kernel_rfl
theorem FnExactSitTry_j30:((Rows.fnExactSitTryRow.veiled == (Tryz.f3.params.toList++Rows.fnExactSitTrySpec.plain.varTypes Tryz.prog++Tryz.f3.resultTypes.toList).any (Tryz.prog.veiledRec ·)))=true:=by kernel_rfl
theorem FnExactSitTry_j31:(Rows.fnExactSitTryRow.veiledFits Tryz.prog Tryz.f3.params.toList (Tryz.f3.params.toList++Rows.fnExactSitTrySpec.plain.varTypes Tryz.prog++Tryz.f3.resultTypes.toList))=true:=by kernel_rfl
end Go.Proofs.YtgpjnnkmmplicaaGreatDoor
