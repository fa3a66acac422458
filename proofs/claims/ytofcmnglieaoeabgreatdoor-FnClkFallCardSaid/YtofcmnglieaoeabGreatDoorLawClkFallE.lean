/- The tied card of FnClkFall: for every input it returns true,and its arguments read behind the call as they read before; the listed tables of the library as the program's text lays them. No conditions beyond the given card's own. -/
import Derived.Test.YtofcmnglieaoeabGreatDoorCards
import Derived.Test.YtofcmnglieaoeabGreatDoorTie
import Derived.Test.YtofcmnglieaoeabGreatDoorTd
import Derived.SevenTiedAt
import Derived.ProofKit
import Derived.LaidMore
import Derived.LaidHandle
import Derived.OpenShut
import Derived.Stop.Joined
set_option linter.unusedVariables false
set_option linter.unusedSimpArgs false
namespace Go.Proofs.YtofcmnglieaoeabGreatDoor
open Go Go.Tm Go.ChangeShapes Go.WideShapes Go.ChangeAt Go.RowKit
def Jic (P:Program) (fn:Func) (c:OpenClaim):Bool:=c.kinds == (if c.domain.isEmpty then [] else fn.params.toList.map fun t=>match P.underlying t with | some (.int k)=>some k | _=>none)
theorem FnClkFall_j18:(Rows.fnClkFallSpec.vars.all (Tryz.prog.varReadable ·))=true:=by kernel_rfl
theorem FnClkFall_j19:(Tryz.f3.resultTypes.all (fun t=>Tryz.prog.readableRec t&&decide (t<Tryz.prog.types.size)))=true:=by kernel_rfl
theorem FnClkFall_j20:((Rows.fnClkFallRow.ifacesOut == Tryz.f3.resultTypes.toList.any (Tryz.prog.ifacesRec ·)))=true:=by kernel_rfl
theorem FnClkFall_j21:((Rows.fnClkFallRow.loopsOut == Tryz.f3.resultTypes.toList.any (Tryz.prog.loopsFrom ·)))=true:=by kernel_rfl
theorem FnClkFall_j22:((Rows.fnClkFallRow.plainKeys == Tryz.prog.plainKeys))=true:=by kernel_rfl
theorem FnClkFall_j23:(Rows.fnClkFallRow.shortTexts.isNone)=true:=by kernel_rfl
theorem FnClkFall_j24:(Tryz.prog.stopsHeard)=true:=by kernel_rfl
theorem FnClkFall_j25:(Tryz.prog.mayEnter)=true:=by kernel_rfl
theorem FnClkFall_j26:((Rows.fnClkFallRow.lifted == Tryz.prog.liftsFinal))=true:=by kernel_rfl
theorem FnClkFall_j27:((Tryz.prog.make == some Rows.fnClkFallRow.make))=true:=by kernel_rfl
theorem FnClkFall_j28:(Jic Tryz.prog Tryz.f3 Rows.fnClkFallRow)=true:=by kernel_rfl
theorem FnClkFall_j29:((Rows.fnClkFallRow.pinned == Rows.fnClkFallRow.pinnedBy))=true:=by kernel_rfl
theorem FnClkFall_j30:((Rows.fnClkFallRow.veiled == (Tryz.f3.params.toList++Rows.fnClkFallSpec.plain.varTypes Tryz.prog++Tryz.f3.resultTypes.toList).any (Tryz.prog.veiledRec ·)))=true:=by kernel_rfl
theorem FnClkFall_j31:(Rows.fnClkFallRow.veiledFits Tryz.prog Tryz.f3.params.toList (Tryz.f3.params.toList++Rows.fnClkFallSpec.plain.varTypes Tryz.prog++Tryz.f3.resultTypes.toList))=true:=by kernel_rfl
end Go.Proofs.YtofcmnglieaoeabGreatDoor
