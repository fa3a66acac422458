/- The tied card of FnSitNew: for every input it returns true, and its arguments read behind the call as they read before; the listed tables of the library as the program's text lays them. No conditions beyond the given card's own. -/
import Derived.Test.YtdibnlhlngodeaaGreatDoorCards
import Derived.Test.YtdibnlhlngodeaaGreatDoorTie
import Derived.Test.YtdibnlhlngodeaaGreatDoorTd
import Derived.SevenTiedAt
import Derived.ProofKit
import Derived.LaidMore
import Derived.LaidHandle
import Derived.OpenShut
import Derived.Stop.Joined
set_option linter.unusedVariables false
set_option linter.unusedSimpArgs false
namespace Go.Proofs.YtdibnlhlngodeaaGreatDoor
open Go Go.Tm Go.ChangeShapes Go.WideShapes Go.ChangeAt Go.RowKit
def kindsFit (P : Program) (fn : Func) (c : OpenClaim) : Bool := c.kinds == (if c.domain.isEmpty then [] else fn.params.toList.map fun t => match P.underlying t with | some (.int k) => some k | _ => none)
theorem FnSitNew_j18 : (Rows.fnSitNewSpec.vars.all (Tryz.prog.varReadable ·)) = true := by kernel_rfl
theorem FnSitNew_j19 : (Tryz.f9.resultTypes.all (fun t => Tryz.prog.readableRec t && decide (t < Tryz.prog.types.size))) = true := by kernel_rfl
theorem FnSitNew_j20 : ((Rows.fnSitNewRow.ifacesOut == Tryz.f9.resultTypes.toList.any (Tryz.prog.ifacesRec ·))) = true := by kernel_rfl
theorem FnSitNew_j21 : ((Rows.fnSitNewRow.loopsOut == Tryz.f9.resultTypes.toList.any (Tryz.prog.loopsFrom ·))) = true := by kernel_rfl
theorem FnSitNew_j22 : ((Rows.fnSitNewRow.plainKeys == Tryz.prog.plainKeys)) = true := by kernel_rfl
theorem FnSitNew_j23 : (Rows.fnSitNewRow.shortTexts.isNone) = true := by kernel_rfl
theorem FnSitNew_j24 : (Tryz.prog.stopsHeard) = true := by kernel_rfl
theorem FnSitNew_j25 : (Tryz.prog.mayEnter) = true := by kernel_rfl
theorem FnSitNew_j26 : ((Rows.fnSitNewRow.lifted == Tryz.prog.liftsFinal)) = true := by kernel_rfl
theorem FnSitNew_j27 : ((Tryz.prog.make == some Rows.fnSitNewRow.make)) = true := by kernel_rfl
theorem FnSitNew_j28 : (kindsFit Tryz.prog Tryz.f9 Rows.fnSitNewRow) = true := by kernel_rfl
theorem FnSitNew_j29 : ((Rows.fnSitNewRow.pinned == Rows.fnSitNewRow.pinnedBy)) = true := by kernel_rfl
theorem FnSitNew_j30 : ((Rows.fnSitNewRow.veiled == (Tryz.f9.params.toList ++ Rows.fnSitNewSpec.plain.varTypes Tryz.prog ++ Tryz.f9.resultTypes.toList).any (Tryz.prog.veiledRec ·))) = true := by kernel_rfl
theorem FnSitNew_j31 : (Rows.fnSitNewRow.veiledFits Tryz.prog Tryz.f9.params.toList (Tryz.f9.params.toList ++ Rows.fnSitNewSpec.plain.varTypes Tryz.prog ++ Tryz.f9.resultTypes.toList)) = true := by kernel_rfl

end Go.Proofs.YtdibnlhlngodeaaGreatDoor
