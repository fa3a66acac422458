/- The tied card of FnExactClkTick: for every input it returns true,and its arguments read behind the call as they read before; the listed tables of the library as the program's text lays them. No conditions beyond the given card's own. -/
import Derived.Test.YtgiejmanbmeloaaGreatDoorCards
import Derived.Test.YtgiejmanbmeloaaGreatDoorTie
import Derived.Test.YtgiejmanbmeloaaGreatDoorTd
import Derived.SevenTiedAt
import Derived.ProofKit
import Derived.LaidMore
import Derived.LaidHandle
import Derived.OpenShut
import Derived.Stop.Joined
set_option linter.unusedVariables false
set_option linter.unusedSimpArgs false
namespace Go.Proofs.YtgiejmanbmeloaaGreatDoor
open Go Go.Tm Go.ChangeShapes Go.WideShapes Go.ChangeAt Go.RowKit
def kindsFit (P : Program) (fn : Func) (c : OpenClaim) : Bool := c.kinds == (if c.domain.isEmpty then [] else fn.params.toList.map fun t => match P.underlying t with | some (.int k) => some k | _ => none)
theorem FnExactClkTick_j18 : (Rows.fnExactClkTickSpec.vars.all (Tryz.prog.varReadable ·)) = true := by kernel_rfl
theorem FnExactClkTick_j19 : (Tryz.f3.resultTypes.all (fun t => Tryz.prog.readableRec t && decide (t < Tryz.prog.types.size))) = true := by kernel_rfl
theorem FnExactClkTick_j20 : ((Rows.fnExactClkTickRow.ifacesOut == Tryz.f3.resultTypes.toList.any (Tryz.prog.ifacesRec ·))) = true := by kernel_rfl
theorem FnExactClkTick_j21 : ((Rows.fnExactClkTickRow.loopsOut == Tryz.f3.resultTypes.toList.any (Tryz.prog.loopsFrom ·))) = true := by kernel_rfl
theorem FnExactClkTick_j22 : ((Rows.fnExactClkTickRow.plainKeys == Tryz.prog.plainKeys)) = true := by kernel_rfl
theorem FnExactClkTick_j23 : (Rows.fnExactClkTickRow.shortTexts.isNone) = true := by kernel_rfl
theorem FnExactClkTick_j24 : (Tryz.prog.stopsHeard) = true := by kernel_rfl
theorem FnExactClkTick_j25 : (Tryz.prog.mayEnter) = true := by kernel_rfl
theorem FnExactClkTick_j26 : ((Rows.fnExactClkTickRow.lifted == Tryz.prog.liftsFinal)) = true := by kernel_rfl
theorem FnExactClkTick_j27 : ((Tryz.prog.make == some Rows.fnExactClkTickRow.make)) = true := by kernel_rfl
theorem FnExactClkTick_j28 : (kindsFit Tryz.prog Tryz.f3 Rows.fnExactClkTickRow) = true := by kernel_rfl
theorem FnExactClkTick_j29 : ((Rows.fnExactClkTickRow.pinned == Rows.fnExactClkTickRow.pinnedBy)) = true := by kernel_rfl
theorem FnExactClkTick_j30 : ((Rows.fnExactClkTickRow.veiled == (Tryz.f3.params.toList ++ Rows.fnExactClkTickSpec.plain.varTypes Tryz.prog ++ Tryz.f3.resultTypes.toList).any (Tryz.prog.veiledRec ·))) = true := by kernel_rfl
theorem FnExactClkTick_j31 : (Rows.fnExactClkTickRow.veiledFits Tryz.prog Tryz.f3.params.toList (Tryz.f3.params.toList ++ Rows.fnExactClkTickSpec.plain.varTypes Tryz.prog ++ Tryz.f3.resultTypes.toList)) = true := by kernel_rfl
end Go.Proofs.YtgiejmanbmeloaaGreatDoor
