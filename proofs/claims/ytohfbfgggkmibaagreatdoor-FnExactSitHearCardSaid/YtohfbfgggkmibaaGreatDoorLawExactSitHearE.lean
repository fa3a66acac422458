/- The tied card of FnExactSitHear: for every input it returns true,and its arguments read behind the call as they read before; the listed tables of the library as the program's text lays them. No conditions beyond the given card's own. -/
import Derived.Test.YtohfbfgggkmibaaGreatDoorCards
import Derived.Test.YtohfbfgggkmibaaGreatDoorTie
import Derived.Test.YtohfbfgggkmibaaGreatDoorTd
import Derived.SevenTiedAt
import Derived.ProofKit
import Derived.LaidMore
import Derived.LaidHandle
import Derived.OpenShut
import Derived.Stop.Joined
set_option linter.unusedVariables false
set_option linter.unusedSimpArgs false
namespace Go.Proofs.YtohfbfgggkmibaaGreatDoor
open Go Go.Tm Go.ChangeShapes Go.WideShapes Go.ChangeAt Go.RowKit
def kindsFit (P : Program) (fn : Func) (c : OpenClaim) : Bool := c.kinds == (if c.domain.isEmpty then [] else fn.params.toList.map fun t => match P.underlying t with | some (.int k) => some k | _ => none)
theorem FnExactSitHear_j18 : (Rows.fnExactSitHearSpec.vars.all (Tryz.prog.varReadable ·)) = true := by kernel_rfl
theorem FnExactSitHear_j19 : (Tryz.f6.resultTypes.all (fun t => Tryz.prog.readableRec t && decide (t < Tryz.prog.types.size))) = true := by kernel_rfl
theorem FnExactSitHear_j20 : ((Rows.fnExactSitHearRow.ifacesOut == Tryz.f6.resultTypes.toList.any (Tryz.prog.ifacesRec ·))) = true := by kernel_rfl
theorem FnExactSitHear_j21 : ((Rows.fnExactSitHearRow.loopsOut == Tryz.f6.resultTypes.toList.any (Tryz.prog.loopsFrom ·))) = true := by kernel_rfl
theorem FnExactSitHear_j22 : ((Rows.fnExactSitHearRow.plainKeys == Tryz.prog.plainKeys)) = true := by kernel_rfl
theorem FnExactSitHear_j23 : (Rows.fnExactSitHearRow.shortTexts.isNone) = true := by kernel_rfl
theorem FnExactSitHear_j24 : (Tryz.prog.stopsHeard) = true := by kernel_rfl
theorem FnExactSitHear_j25 : (Tryz.prog.mayEnter) = true := by kernel_rfl
theorem FnExactSitHear_j26 : ((Rows.fnExactSitHearRow.lifted == Tryz.prog.liftsFinal)) = true := by kernel_rfl
theorem FnExactSitHear_j27 : ((Tryz.prog.make == some Rows.fnExactSitHearRow.make)) = true := by kernel_rfl
theorem FnExactSitHear_j28 : (kindsFit Tryz.prog Tryz.f6 Rows.fnExactSitHearRow) = true := by kernel_rfl
theorem FnExactSitHear_j29 : ((Rows.fnExactSitHearRow.pinned == Rows.fnExactSitHearRow.pinnedBy)) = true := by kernel_rfl
theorem FnExactSitHear_j30 : ((Rows.fnExactSitHearRow.veiled == (Tryz.f6.params.toList ++ Rows.fnExactSitHearSpec.plain.varTypes Tryz.prog ++ Tryz.f6.resultTypes.toList).any (Tryz.prog.veiledRec ·))) = true := by kernel_rfl
theorem FnExactSitHear_j31 : (Rows.fnExactSitHearRow.veiledFits Tryz.prog Tryz.f6.params.toList (Tryz.f6.params.toList ++ Rows.fnExactSitHearSpec.plain.varTypes Tryz.prog ++ Tryz.f6.resultTypes.toList)) = true := by kernel_rfl
end Go.Proofs.YtohfbfgggkmibaaGreatDoor
