/- The tied card of FnExactClkOk: for every input it returns true, and its arguments read behind the call as they read before; the listed tables of the library as the program's text lays them. No conditions beyond the given card's own. -/
import Derived.Test.YtdibnlhlngodeaaGreatDoorCards
import Derived.Test.YtdibnlhlngodeaaGreatDoorTie
import Derived.Test.YtdibnlhlngodeaaGreatDoorTd
import Derived.SevenTiedAt
import Derived.ProofKit
import Derived.LaidMore
import Derived.LaidHandle
import Derived.OpenShut
import Derived.Stop.Joined
set_option linter.unusedVariables false
set_option linter.unusedSimpArgs false
namespace Go.Proofs.YtdibnlhlngodeaaGreatDoor
open Go Go.Tm Go.ChangeShapes Go.WideShapes Go.ChangeAt Go.RowKit
def kindsFit (P : Program) (fn : Func) (c : OpenClaim) : Bool := c.kinds == (if c.domain.isEmpty then [] else fn.params.toList.map fun t => match P.underlying t with | some (.int k) => some k | _ => none)
theorem FnExactClkOk_j18 : (Rows.fnExactClkOkSpec.vars.all (Tryz.prog.varReadable ·)) = true := by kernel_rfl
theorem FnExactClkOk_j19 : (Tryz.f6.resultTypes.all (fun t => Tryz.prog.readableRec t && decide (t < Tryz.prog.types.size))) = true := by kernel_rfl
theorem FnExactClkOk_j20 : ((Rows.fnExactClkOkRow.ifacesOut == Tryz.f6.resultTypes.toList.any (Tryz.prog.ifacesRec ·))) = true := by kernel_rfl
theorem FnExactClkOk_j21 : ((Rows.fnExactClkOkRow.loopsOut == Tryz.f6.resultTypes.toList.any (Tryz.prog.loopsFrom ·))) = true := by kernel_rfl
theorem FnExactClkOk_j22 : ((Rows.fnExactClkOkRow.plainKeys == Tryz.prog.plainKeys)) = true := by kernel_rfl
theorem FnExactClkOk_j23 : (Rows.fnExactClkOkRow.shortTexts.isNone) = true := by kernel_rfl
theorem FnExactClkOk_j24 : (Tryz.prog.stopsHeard) = true := by kernel_rfl
theorem FnExactClkOk_j25 : (Tryz.prog.mayEnter) = true := by kernel_rfl
theorem FnExactClkOk_j26 : ((Rows.fnExactClkOkRow.lifted == Tryz.prog.liftsFinal)) = true := by kernel_rfl
theorem FnExactClkOk_j27 : ((Tryz.prog.make == some Rows.fnExactClkOkRow.make)) = true := by kernel_rfl
theorem FnExactClkOk_j28 : (kindsFit Tryz.prog Tryz.f6 Rows.fnExactClkOkRow) = true := by kernel_rfl
theorem FnExactClkOk_j29 : ((Rows.fnExactClkOkRow.pinned == Rows.fnExactClkOkRow.pinnedBy)) = true := by kernel_rfl
theorem FnExactClkOk_j30 : ((Rows.fnExactClkOkRow.veiled == (Tryz.f6.params.toList ++ Rows.fnExactClkOkSpec.plain.varTypes Tryz.prog ++ Tryz.f6.resultTypes.toList).any (Tryz.prog.veiledRec ·))) = true := by kernel_rfl
theorem FnExactClkOk_j31 : (Rows.fnExactClkOkRow.veiledFits Tryz.prog Tryz.f6.params.toList (Tryz.f6.params.toList ++ Rows.fnExactClkOkSpec.plain.varTypes Tryz.prog ++ Tryz.f6.resultTypes.toList)) = true := by kernel_rfl

end Go.Proofs.YtdibnlhlngodeaaGreatDoor
