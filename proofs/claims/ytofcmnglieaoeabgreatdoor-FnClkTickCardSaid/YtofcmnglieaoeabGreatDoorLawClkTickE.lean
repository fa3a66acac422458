/- The tied card of FnClkTick: for every input it returns true,and its arguments read behind the call as they read before; the listed tables of the library as the program's text lays them. No conditions beyond the given card's own. -/
import Derived.Test.YtofcmnglieaoeabGreatDoorCards
import Derived.Test.YtofcmnglieaoeabGreatDoorTie
import Derived.Test.YtofcmnglieaoeabGreatDoorTd
import Derived.SevenTiedAt
import Derived.ProofKit
import Derived.LaidMore
import Derived.LaidHandle
import Derived.OpenShut
import Derived.Stop.Joined
set_option linter.unusedVariables false
set_option linter.unusedSimpArgs false
namespace Go.Proofs.YtofcmnglieaoeabGreatDoor
open Go Go.Tm Go.ChangeShapes Go.WideShapes Go.ChangeAt Go.RowKit
def JiB (P:Program) (fn:Func) (c:OpenClaim):Bool:=c.kinds == (if c.domain.isEmpty then [] else fn.params.toList.map fun t=>match P.underlying t with | some (.int k)=>some k | _=>none)
theorem FnClkTick_j18:(Rows.fnClkTickSpec.vars.all (Tryz.prog.varReadable ·))=true:=by kernel_rfl
theorem FnClkTick_j19:(Tryz.f4.resultTypes.all (fun t=>Tryz.prog.readableRec t&&decide (t<Tryz.prog.types.size)))=true:=by kernel_rfl
theorem FnClkTick_j20:((Rows.fnClkTickRow.ifacesOut == Tryz.f4.resultTypes.toList.any (Tryz.prog.ifacesRec ·)))=true:=by kernel_rfl
theorem FnClkTick_j21:((Rows.fnClkTickRow.loopsOut == Tryz.f4.resultTypes.toList.any (Tryz.prog.loopsFrom ·)))=true:=by kernel_rfl
theorem FnClkTick_j22:((Rows.fnClkTickRow.plainKeys == Tryz.prog.plainKeys))=true:=by kernel_rfl
theorem FnClkTick_j23:(Rows.fnClkTickRow.shortTexts.isNone)=true:=by kernel_rfl
theorem FnClkTick_j24:(Tryz.prog.stopsHeard)=true:=by kernel_rfl
theorem FnClkTick_j25:(Tryz.prog.mayEnter)=true:=by kernel_rfl
theorem FnClkTick_j26:((Rows.fnClkTickRow.lifted == Tryz.prog.liftsFinal))=true:=by kernel_rfl
theorem FnClkTick_j27:((Tryz.prog.make == some Rows.fnClkTickRow.make))=true:=by kernel_rfl
theorem FnClkTick_j28:(JiB Tryz.prog Tryz.f4 Rows.fnClkTickRow)=true:=by kernel_rfl
theorem FnClkTick_j29:((Rows.fnClkTickRow.pinned == Rows.fnClkTickRow.pinnedBy))=true:=by kernel_rfl
theorem FnClkTick_j30:((Rows.fnClkTickRow.veiled == (Tryz.f4.params.toList++Rows.fnClkTickSpec.plain.varTypes Tryz.prog++Tryz.f4.resultTypes.toList).any (Tryz.prog.veiledRec ·)))=true:=by kernel_rfl
theorem FnClkTick_j31:(Rows.fnClkTickRow.veiledFits Tryz.prog Tryz.f4.params.toList (Tryz.f4.params.toList++Rows.fnClkTickSpec.plain.varTypes Tryz.prog++Tryz.f4.resultTypes.toList))=true:=by kernel_rfl
end Go.Proofs.YtofcmnglieaoeabGreatDoor
