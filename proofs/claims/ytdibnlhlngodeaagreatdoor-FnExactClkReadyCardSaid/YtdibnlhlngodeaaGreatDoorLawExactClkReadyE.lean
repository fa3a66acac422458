/- The tied card of FnExactClkReady: for every input it returns true, and its arguments read behind the call as they read before; the listed tables of the library as the program's text lays them. No conditions beyond the given card's own. -/
import Derived.Test.YtdibnlhlngodeaaGreatDoorCards
import Derived.Test.YtdibnlhlngodeaaGreatDoorTie
import Derived.Test.YtdibnlhlngodeaaGreatDoorTd
import Derived.SevenTiedAt
import Derived.ProofKit
import Derived.LaidMore
import Derived.LaidHandle
import Derived.OpenShut
import Derived.Stop.Joined
set_option linter.unusedVariables false
set_option linter.unusedSimpArgs false
namespace Go.Proofs.YtdibnlhlngodeaaGreatDoor
open Go Go.Tm Go.ChangeShapes Go.WideShapes Go.ChangeAt Go.RowKit
def kindsFit (P : Program) (fn : Func) (c : OpenClaim) : Bool := c.kinds == (if c.domain.isEmpty then [] else fn.params.toList.map fun t => match P.underlying t with | some (.int k) => some k | _ => none)
theorem FnExactClkReady_j18 : (Rows.fnExactClkReadySpec.vars.all (Tryz.prog.varReadable ·)) = true := by kernel_rfl
theorem FnExactClkReady_j19 : (Tryz.f7.resultTypes.all (fun t => Tryz.prog.readableRec t && decide (t < Tryz.prog.types.size))) = true := by kernel_rfl
theorem FnExactClkReady_j20 : ((Rows.fnExactClkReadyRow.ifacesOut == Tryz.f7.resultTypes.toList.any (Tryz.prog.ifacesRec ·))) = true := by kernel_rfl
theorem FnExactClkReady_j21 : ((Rows.fnExactClkReadyRow.loopsOut == Tryz.f7.resultTypes.toList.any (Tryz.prog.loopsFrom ·))) = true := by kernel_rfl
theorem FnExactClkReady_j22 : ((Rows.fnExactClkReadyRow.plainKeys == Tryz.prog.plainKeys)) = true := by kernel_rfl
theorem FnExactClkReady_j23 : (Rows.fnExactClkReadyRow.shortTexts.isNone) = true := by kernel_rfl
theorem FnExactClkReady_j24 : (Tryz.prog.stopsHeard) = true := by kernel_rfl
theorem FnExactClkReady_j25 : (Tryz.prog.mayEnter) = true := by kernel_rfl
theorem FnExactClkReady_j26 : ((Rows.fnExactClkReadyRow.lifted == Tryz.prog.liftsFinal)) = true := by kernel_rfl
theorem FnExactClkReady_j27 : ((Tryz.prog.make == some Rows.fnExactClkReadyRow.make)) = true := by kernel_rfl
theorem FnExactClkReady_j28 : (kindsFit Tryz.prog Tryz.f7 Rows.fnExactClkReadyRow) = true := by kernel_rfl
theorem FnExactClkReady_j29 : ((Rows.fnExactClkReadyRow.pinned == Rows.fnExactClkReadyRow.pinnedBy)) = true := by kernel_rfl
theorem FnExactClkReady_j30 : ((Rows.fnExactClkReadyRow.veiled == (Tryz.f7.params.toList ++ Rows.fnExactClkReadySpec.plain.varTypes Tryz.prog ++ Tryz.f7.resultTypes.toList).any (Tryz.prog.veiledRec ·))) = true := by kernel_rfl
theorem FnExactClkReady_j31 : (Rows.fnExactClkReadyRow.veiledFits Tryz.prog Tryz.f7.params.toList (Tryz.f7.params.toList ++ Rows.fnExactClkReadySpec.plain.varTypes Tryz.prog ++ Tryz.f7.resultTypes.toList)) = true := by kernel_rfl

end Go.Proofs.YtdibnlhlngodeaaGreatDoor
