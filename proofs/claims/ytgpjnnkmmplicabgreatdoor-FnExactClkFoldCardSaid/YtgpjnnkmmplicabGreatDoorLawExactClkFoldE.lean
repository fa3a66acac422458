/- The tied card of FnExactClkFold: for every input it returns true,and its arguments read behind the call as they read before; the listed tables of the library as the program's text lays them. No conditions beyond the given card's own. -/
import Derived.Test.YtgpjnnkmmplicabGreatDoorCards
import Derived.Test.YtgpjnnkmmplicabGreatDoorTie
import Derived.Test.YtgpjnnkmmplicabGreatDoorTd
import Derived.SevenTiedAt
import Derived.ProofKit
import Derived.LaidMore
import Derived.LaidHandle
import Derived.OpenShut
import Derived.Stop.Joined
set_option linter.unusedVariables false
set_option linter.unusedSimpArgs false
namespace Go.Proofs.YtgpjnnkmmplicabGreatDoor
open Go Go.Tm Go.ChangeShapes Go.WideShapes Go.ChangeAt Go.RowKit
def JgO (P:Program) (fn:Func) (c:OpenClaim):Bool:=c.kinds == (if c.domain.isEmpty then [] else fn.params.toList.map fun t=>match P.underlying t with | some (.int k)=>some k | _=>none)
theorem FnExactClkFold_j18:(Rows.fnExactClkFoldSpec.vars.all (Tryz.prog.varReadable ·))=true:=by kernel_rfl
theorem FnExactClkFold_j19:(Tryz.f3.resultTypes.all (fun t=>Tryz.prog.readableRec t&&decide (t<Tryz.prog.types.size)))=true:=by kernel_rfl
theorem FnExactClkFold_j20:((Rows.fnExactClkFoldRow.ifacesOut == Tryz.f3.resultTypes.toList.any (Tryz.prog.ifacesRec ·)))=true:=by kernel_rfl
theorem FnExactClkFold_j21:((Rows.fnExactClkFoldRow.loopsOut == Tryz.f3.resultTypes.toList.any (Tryz.prog.loopsFrom ·)))=true:=by kernel_rfl
theorem FnExactClkFold_j22:((Rows.fnExactClkFoldRow.plainKeys == Tryz.prog.plainKeys))=true:=by kernel_rfl
theorem FnExactClkFold_j23:(Rows.fnExactClkFoldRow.shortTexts.isNone)=true:=by kernel_rfl
theorem FnExactClkFold_j24:(Tryz.prog.stopsHeard)=true:=by kernel_rfl
theorem FnExactClkFold_j25:(Tryz.prog.mayEnter)=true:=by kernel_rfl
theorem FnExactClkFold_j26:((Rows.fnExactClkFoldRow.lifted == Tryz.prog.liftsFinal))=true:=by kernel_rfl
theorem FnExactClkFold_j27:((Tryz.prog.make == some Rows.fnExactClkFoldRow.make))=true:=by kernel_rfl
theorem FnExactClkFold_j28:(JgO Tryz.prog Tryz.f3 Rows.fnExactClkFoldRow)=true:=by kernel_rfl
theorem FnExactClkFold_j29:((Rows.fnExactClkFoldRow.pinned == Rows.fnExactClkFoldRow.pinnedBy))=true:=by kernel_rfl
theorem FnExactClkFold_j30:((Rows.fnExactClkFoldRow.veiled == (Tryz.f3.params.toList++Rows.fnExactClkFoldSpec.plain.varTypes Tryz.prog++Tryz.f3.resultTypes.toList).any (Tryz.prog.veiledRec ·)))=true:=by kernel_rfl
theorem FnExactClkFold_j31:(Rows.fnExactClkFoldRow.veiledFits Tryz.prog Tryz.f3.params.toList (Tryz.f3.params.toList++Rows.fnExactClkFoldSpec.plain.varTypes Tryz.prog++Tryz.f3.resultTypes.toList))=true:=by kernel_rfl
end Go.Proofs.YtgpjnnkmmplicabGreatDoor
