/- The tied card of FnClkNext: for every input it returns true,and its arguments read behind the call as they read before; the listed tables of the library as the program's text lays them. No conditions beyond the given card's own. -/
import Derived.Test.YtngcnclchcahlabGreatDoorCards
import Derived.Test.YtngcnclchcahlabGreatDoorTie
import Derived.Test.YtngcnclchcahlabGreatDoorTd
import Derived.SevenTiedAt
import Derived.ProofKit
import Derived.LaidMore
import Derived.LaidHandle
import Derived.OpenShut
import Derived.Stop.Joined
set_option linter.unusedVariables false
set_option linter.unusedSimpArgs false
namespace Go.Proofs.YtngcnclchcahlabGreatDoor
open Go Go.Tm Go.ChangeShapes Go.WideShapes Go.ChangeAt Go.RowKit
def Jiz (P:Program) (fn:Func) (c:OpenClaim):Bool:=c.kinds == (if c.domain.isEmpty then [] else fn.params.toList.map fun t=>match P.underlying t with | some (.int k)=>some k | _=>none)
theorem FnClkNext_j18:(Rows.fnClkNextSpec.vars.all (Tryz.prog.varReadable ·))=true:=by kernel_rfl
theorem FnClkNext_j19:(Tryz.f3.resultTypes.all (fun t=>Tryz.prog.readableRec t&&decide (t<Tryz.prog.types.size)))=true:=by kernel_rfl
theorem FnClkNext_j20:((Rows.fnClkNextRow.ifacesOut == Tryz.f3.resultTypes.toList.any (Tryz.prog.ifacesRec ·)))=true:=by kernel_rfl
theorem FnClkNext_j21:((Rows.fnClkNextRow.loopsOut == Tryz.f3.resultTypes.toList.any (Tryz.prog.loopsFrom ·)))=true:=by kernel_rfl
theorem FnClkNext_j22:((Rows.fnClkNextRow.plainKeys == Tryz.prog.plainKeys))=true:=by kernel_rfl
theorem FnClkNext_j23:(Rows.fnClkNextRow.shortTexts.isNone)=true:=by kernel_rfl
theorem FnClkNext_j24:(Tryz.prog.stopsHeard)=true:=by kernel_rfl
theorem FnClkNext_j25:(Tryz.prog.mayEnter)=true:=by kernel_rfl
theorem FnClkNext_j26:((Rows.fnClkNextRow.lifted == Tryz.prog.liftsFinal))=true:=by kernel_rfl
theorem FnClkNext_j27:((Tryz.prog.make == some Rows.fnClkNextRow.make))=true:=by kernel_rfl
theorem FnClkNext_j28:(Jiz Tryz.prog Tryz.f3 Rows.fnClkNextRow)=true:=by kernel_rfl
theorem FnClkNext_j29:((Rows.fnClkNextRow.pinned == Rows.fnClkNextRow.pinnedBy))=true:=by kernel_rfl
theorem FnClkNext_j30:((Rows.fnClkNextRow.veiled == (Tryz.f3.params.toList++Rows.fnClkNextSpec.plain.varTypes Tryz.prog++Tryz.f3.resultTypes.toList).any (Tryz.prog.veiledRec ·)))=true:=by kernel_rfl
theorem FnClkNext_j31:(Rows.fnClkNextRow.veiledFits Tryz.prog Tryz.f3.params.toList (Tryz.f3.params.toList++Rows.fnClkNextSpec.plain.varTypes Tryz.prog++Tryz.f3.resultTypes.toList))=true:=by kernel_rfl
end Go.Proofs.YtngcnclchcahlabGreatDoor
