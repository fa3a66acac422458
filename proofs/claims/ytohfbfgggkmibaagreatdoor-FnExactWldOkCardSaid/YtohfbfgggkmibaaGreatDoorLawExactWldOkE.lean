/- The tied card of FnExactWldOk: for every input it returns true,and its arguments read behind the call as they read before; the listed tables of the library as the program's text lays them. No conditions beyond the given card's own. -/
import Derived.Test.YtohfbfgggkmibaaGreatDoorCards
import Derived.Test.YtohfbfgggkmibaaGreatDoorTie
import Derived.Test.YtohfbfgggkmibaaGreatDoorTd
import Derived.SevenTiedAt
import Derived.ProofKit
import Derived.LaidMore
import Derived.LaidHandle
import Derived.OpenShut
import Derived.Stop.Joined
set_option linter.unusedVariables false
set_option linter.unusedSimpArgs false
namespace Go.Proofs.YtohfbfgggkmibaaGreatDoor
open Go Go.Tm Go.ChangeShapes Go.WideShapes Go.ChangeAt Go.RowKit
def kindsFit (P : Program) (fn : Func) (c : OpenClaim) : Bool := c.kinds == (if c.domain.isEmpty then [] else fn.params.toList.map fun t => match P.underlying t with | some (.int k) => some k | _ => none)
theorem FnExactWldOk_j18 : (Rows.fnExactWldOkSpec.vars.all (Tryz.prog.varReadable ·)) = true := by kernel_rfl
theorem FnExactWldOk_j19 : (Tryz.f3.resultTypes.all (fun t => Tryz.prog.readableRec t && decide (t < Tryz.prog.types.size))) = true := by kernel_rfl
theorem FnExactWldOk_j20 : ((Rows.fnExactWldOkRow.ifacesOut == Tryz.f3.resultTypes.toList.any (Tryz.prog.ifacesRec ·))) = true := by kernel_rfl
theorem FnExactWldOk_j21 : ((Rows.fnExactWldOkRow.loopsOut == Tryz.f3.resultTypes.toList.any (Tryz.prog.loopsFrom ·))) = true := by kernel_rfl
theorem FnExactWldOk_j22 : ((Rows.fnExactWldOkRow.plainKeys == Tryz.prog.plainKeys)) = true := by kernel_rfl
theorem FnExactWldOk_j23 : (Rows.fnExactWldOkRow.shortTexts.isNone) = true := by kernel_rfl
theorem FnExactWldOk_j24 : (Tryz.prog.stopsHeard) = true := by kernel_rfl
theorem FnExactWldOk_j25 : (Tryz.prog.mayEnter) = true := by kernel_rfl
theorem FnExactWldOk_j26 : ((Rows.fnExactWldOkRow.lifted == Tryz.prog.liftsFinal)) = true := by kernel_rfl
theorem FnExactWldOk_j27 : ((Tryz.prog.make == some Rows.fnExactWldOkRow.make)) = true := by kernel_rfl
theorem FnExactWldOk_j28 : (kindsFit Tryz.prog Tryz.f3 Rows.fnExactWldOkRow) = true := by kernel_rfl
theorem FnExactWldOk_j29 : ((Rows.fnExactWldOkRow.pinned == Rows.fnExactWldOkRow.pinnedBy)) = true := by kernel_rfl
theorem FnExactWldOk_j30 : ((Rows.fnExactWldOkRow.veiled == (Tryz.f3.params.toList ++ Rows.fnExactWldOkSpec.plain.varTypes Tryz.prog ++ Tryz.f3.resultTypes.toList).any (Tryz.prog.veiledRec ·))) = true := by kernel_rfl
theorem FnExactWldOk_j31 : (Rows.fnExactWldOkRow.veiledFits Tryz.prog Tryz.f3.params.toList (Tryz.f3.params.toList ++ Rows.fnExactWldOkSpec.plain.varTypes Tryz.prog ++ Tryz.f3.resultTypes.toList)) = true := by kernel_rfl
end Go.Proofs.YtohfbfgggkmibaaGreatDoor
