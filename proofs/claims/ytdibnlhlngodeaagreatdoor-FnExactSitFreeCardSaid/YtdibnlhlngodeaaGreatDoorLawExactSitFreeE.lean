/- The tied card of FnExactSitFree: for every input it returns true, and its arguments read behind the call as they read before; the listed tables of the library as the program's text lays them. No conditions beyond the given card's own. -/
import Derived.Test.YtdibnlhlngodeaaGreatDoorCards
import Derived.Test.YtdibnlhlngodeaaGreatDoorTie
import Derived.Test.YtdibnlhlngodeaaGreatDoorTd
import Derived.SevenTiedAt
import Derived.ProofKit
import Derived.LaidMore
import Derived.LaidHandle
import Derived.OpenShut
import Derived.Stop.Joined
set_option linter.unusedVariables false
set_option linter.unusedSimpArgs false
namespace Go.Proofs.YtdibnlhlngodeaaGreatDoor
open Go Go.Tm Go.ChangeShapes Go.WideShapes Go.ChangeAt Go.RowKit
def kindsFit (P : Program) (fn : Func) (c : OpenClaim) : Bool := c.kinds == (if c.domain.isEmpty then [] else fn.params.toList.map fun t => match P.underlying t with | some (.int k) => some k | _ => none)
theorem FnExactSitFree_j18 : (Rows.fnExactSitFreeSpec.vars.all (Tryz.prog.varReadable ·)) = true := by kernel_rfl
theorem FnExactSitFree_j19 : (Tryz.f5.resultTypes.all (fun t => Tryz.prog.readableRec t && decide (t < Tryz.prog.types.size))) = true := by kernel_rfl
theorem FnExactSitFree_j20 : ((Rows.fnExactSitFreeRow.ifacesOut == Tryz.f5.resultTypes.toList.any (Tryz.prog.ifacesRec ·))) = true := by kernel_rfl
theorem FnExactSitFree_j21 : ((Rows.fnExactSitFreeRow.loopsOut == Tryz.f5.resultTypes.toList.any (Tryz.prog.loopsFrom ·))) = true := by kernel_rfl
theorem FnExactSitFree_j22 : ((Rows.fnExactSitFreeRow.plainKeys == Tryz.prog.plainKeys)) = true := by kernel_rfl
theorem FnExactSitFree_j23 : (Rows.fnExactSitFreeRow.shortTexts.isNone) = true := by kernel_rfl
theorem FnExactSitFree_j24 : (Tryz.prog.stopsHeard) = true := by kernel_rfl
theorem FnExactSitFree_j25 : (Tryz.prog.mayEnter) = true := by kernel_rfl
theorem FnExactSitFree_j26 : ((Rows.fnExactSitFreeRow.lifted == Tryz.prog.liftsFinal)) = true := by kernel_rfl
theorem FnExactSitFree_j27 : ((Tryz.prog.make == some Rows.fnExactSitFreeRow.make)) = true := by kernel_rfl
theorem FnExactSitFree_j28 : (kindsFit Tryz.prog Tryz.f5 Rows.fnExactSitFreeRow) = true := by kernel_rfl
theorem FnExactSitFree_j29 : ((Rows.fnExactSitFreeRow.pinned == Rows.fnExactSitFreeRow.pinnedBy)) = true := by kernel_rfl
theorem FnExactSitFree_j30 : ((Rows.fnExactSitFreeRow.veiled == (Tryz.f5.params.toList ++ Rows.fnExactSitFreeSpec.plain.varTypes Tryz.prog ++ Tryz.f5.resultTypes.toList).any (Tryz.prog.veiledRec ·))) = true := by kernel_rfl
theorem FnExactSitFree_j31 : (Rows.fnExactSitFreeRow.veiledFits Tryz.prog Tryz.f5.params.toList (Tryz.f5.params.toList ++ Rows.fnExactSitFreeSpec.plain.varTypes Tryz.prog ++ Tryz.f5.resultTypes.toList)) = true := by kernel_rfl

end Go.Proofs.YtdibnlhlngodeaaGreatDoor
