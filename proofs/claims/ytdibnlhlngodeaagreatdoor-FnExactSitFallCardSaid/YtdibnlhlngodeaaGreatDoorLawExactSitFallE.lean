/- The tied card of FnExactSitFall: for every input it returns true, and its arguments read behind the call as they read before; the listed tables of the library as the program's text lays them. No conditions beyond the given card's own. -/
import Derived.Test.YtdibnlhlngodeaaGreatDoorCards
import Derived.Test.YtdibnlhlngodeaaGreatDoorTie
import Derived.Test.YtdibnlhlngodeaaGreatDoorTd
import Derived.SevenTiedAt
import Derived.ProofKit
import Derived.LaidMore
import Derived.LaidHandle
import Derived.OpenShut
import Derived.Stop.Joined
set_option linter.unusedVariables false
set_option linter.unusedSimpArgs false
namespace Go.Proofs.YtdibnlhlngodeaaGreatDoor
open Go Go.Tm Go.ChangeShapes Go.WideShapes Go.ChangeAt Go.RowKit
def kindsFit (P : Program) (fn : Func) (c : OpenClaim) : Bool := c.kinds == (if c.domain.isEmpty then [] else fn.params.toList.map fun t => match P.underlying t with | some (.int k) => some k | _ => none)
theorem FnExactSitFall_j18 : (Rows.fnExactSitFallSpec.vars.all (Tryz.prog.varReadable ·)) = true := by kernel_rfl
theorem FnExactSitFall_j19 : (Tryz.f8.resultTypes.all (fun t => Tryz.prog.readableRec t && decide (t < Tryz.prog.types.size))) = true := by kernel_rfl
theorem FnExactSitFall_j20 : ((Rows.fnExactSitFallRow.ifacesOut == Tryz.f8.resultTypes.toList.any (Tryz.prog.ifacesRec ·))) = true := by kernel_rfl
theorem FnExactSitFall_j21 : ((Rows.fnExactSitFallRow.loopsOut == Tryz.f8.resultTypes.toList.any (Tryz.prog.loopsFrom ·))) = true := by kernel_rfl
theorem FnExactSitFall_j22 : ((Rows.fnExactSitFallRow.plainKeys == Tryz.prog.plainKeys)) = true := by kernel_rfl
theorem FnExactSitFall_j23 : (Rows.fnExactSitFallRow.shortTexts.isNone) = true := by kernel_rfl
theorem FnExactSitFall_j24 : (Tryz.prog.stopsHeard) = true := by kernel_rfl
theorem FnExactSitFall_j25 : (Tryz.prog.mayEnter) = true := by kernel_rfl
theorem FnExactSitFall_j26 : ((Rows.fnExactSitFallRow.lifted == Tryz.prog.liftsFinal)) = true := by kernel_rfl
theorem FnExactSitFall_j27 : ((Tryz.prog.make == some Rows.fnExactSitFallRow.make)) = true := by kernel_rfl
theorem FnExactSitFall_j28 : (kindsFit Tryz.prog Tryz.f8 Rows.fnExactSitFallRow) = true := by kernel_rfl
theorem FnExactSitFall_j29 : ((Rows.fnExactSitFallRow.pinned == Rows.fnExactSitFallRow.pinnedBy)) = true := by kernel_rfl
theorem FnExactSitFall_j30 : ((Rows.fnExactSitFallRow.veiled == (Tryz.f8.params.toList ++ Rows.fnExactSitFallSpec.plain.varTypes Tryz.prog ++ Tryz.f8.resultTypes.toList).any (Tryz.prog.veiledRec ·))) = true := by kernel_rfl
theorem FnExactSitFall_j31 : (Rows.fnExactSitFallRow.veiledFits Tryz.prog Tryz.f8.params.toList (Tryz.f8.params.toList ++ Rows.fnExactSitFallSpec.plain.varTypes Tryz.prog ++ Tryz.f8.resultTypes.toList)) = true := by kernel_rfl

end Go.Proofs.YtdibnlhlngodeaaGreatDoor
