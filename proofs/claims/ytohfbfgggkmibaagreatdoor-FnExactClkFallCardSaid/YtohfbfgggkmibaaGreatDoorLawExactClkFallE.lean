/- The tied card of FnExactClkFall: for every input it returns true,and its arguments read behind the call as they read before; the listed tables of the library as the program's text lays them. No conditions beyond the given card's own. -/
import Derived.Test.YtohfbfgggkmibaaGreatDoorCards
import Derived.Test.YtohfbfgggkmibaaGreatDoorTie
import Derived.Test.YtohfbfgggkmibaaGreatDoorTd
import Derived.SevenTiedAt
import Derived.ProofKit
import Derived.LaidMore
import Derived.LaidHandle
import Derived.OpenShut
import Derived.Stop.Joined
set_option linter.unusedVariables false
set_option linter.unusedSimpArgs false
namespace Go.Proofs.YtohfbfgggkmibaaGreatDoor
open Go Go.Tm Go.ChangeShapes Go.WideShapes Go.ChangeAt Go.RowKit
def kindsFit (P : Program) (fn : Func) (c : OpenClaim) : Bool := c.kinds == (if c.domain.isEmpty then [] else fn.params.toList.map fun t => match P.underlying t with | some (.int k) => some k | _ => none)
theorem FnExactClkFall_j18 : (Rows.fnExactClkFallSpec.vars.all (Tryz.prog.varReadable ·)) = true := by kernel_rfl
theorem FnExactClkFall_j19 : (Tryz.f4.resultTypes.all (fun t => Tryz.prog.readableRec t && decide (t < Tryz.prog.types.size))) = true := by kernel_rfl
theorem FnExactClkFall_j20 : ((Rows.fnExactClkFallRow.ifacesOut == Tryz.f4.resultTypes.toList.any (Tryz.prog.ifacesRec ·))) = true := by kernel_rfl
theorem FnExactClkFall_j21 : ((Rows.fnExactClkFallRow.loopsOut == Tryz.f4.resultTypes.toList.any (Tryz.prog.loopsFrom ·))) = true := by kernel_rfl
theorem FnExactClkFall_j22 : ((Rows.fnExactClkFallRow.plainKeys == Tryz.prog.plainKeys)) = true := by kernel_rfl
theorem FnExactClkFall_j23 : (Rows.fnExactClkFallRow.shortTexts.isNone) = true := by kernel_rfl
theorem FnExactClkFall_j24 : (Tryz.prog.stopsHeard) = true := by kernel_rfl
theorem FnExactClkFall_j25 : (Tryz.prog.mayEnter) = true := by kernel_rfl
theorem FnExactClkFall_j26 : ((Rows.fnExactClkFallRow.lifted == Tryz.prog.liftsFinal)) = true := by kernel_rfl
theorem FnExactClkFall_j27 : ((Tryz.prog.make == some Rows.fnExactClkFallRow.make)) = true := by kernel_rfl
theorem FnExactClkFall_j28 : (kindsFit Tryz.prog Tryz.f4 Rows.fnExactClkFallRow) = true := by kernel_rfl
theorem FnExactClkFall_j29 : ((Rows.fnExactClkFallRow.pinned == Rows.fnExactClkFallRow.pinnedBy)) = true := by kernel_rfl
theorem FnExactClkFall_j30 : ((Rows.fnExactClkFallRow.veiled == (Tryz.f4.params.toList ++ Rows.fnExactClkFallSpec.plain.varTypes Tryz.prog ++ Tryz.f4.resultTypes.toList).any (Tryz.prog.veiledRec ·))) = true := by kernel_rfl
theorem FnExactClkFall_j31 : (Rows.fnExactClkFallRow.veiledFits Tryz.prog Tryz.f4.params.toList (Tryz.f4.params.toList ++ Rows.fnExactClkFallSpec.plain.varTypes Tryz.prog ++ Tryz.f4.resultTypes.toList)) = true := by kernel_rfl
end Go.Proofs.YtohfbfgggkmibaaGreatDoor
