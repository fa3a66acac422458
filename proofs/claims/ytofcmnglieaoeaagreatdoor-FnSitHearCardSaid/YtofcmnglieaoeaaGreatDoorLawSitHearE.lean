/- The tied card of FnSitHear: for every input it returns true,and its arguments read behind the call as they read before; the listed tables of the library as the program's text lays them. No conditions beyond the given card's own. -/
import Derived.Test.YtofcmnglieaoeaaGreatDoorCards
import Derived.Test.YtofcmnglieaoeaaGreatDoorTie
import Derived.Test.YtofcmnglieaoeaaGreatDoorTd
import Derived.SevenTiedAt
import Derived.ProofKit
import Derived.LaidMore
import Derived.LaidHandle
import Derived.OpenShut
import Derived.Stop.Joined
set_option linter.unusedVariables false
set_option linter.unusedSimpArgs false
namespace Go.Proofs.YtofcmnglieaoeaaGreatDoor
open Go Go.Tm Go.ChangeShapes Go.WideShapes Go.ChangeAt Go.RowKit
def Jhr (P:Program) (fn:Func) (c:OpenClaim):Bool:=c.kinds == (if c.domain.isEmpty then [] else fn.params.toList.map fun t=>match P.underlying t with | some (.int k)=>some k | _=>none)
theorem FnSitHear_j18:(Rows.fnSitHearSpec.vars.all (Tryz.prog.varReadable ·))=true:=by kernel_rfl
theorem FnSitHear_j19:(Tryz.f3.resultTypes.all (fun t=>Tryz.prog.readableRec t&&decide (t<Tryz.prog.types.size)))=true:=by kernel_rfl
theorem FnSitHear_j20:((Rows.fnSitHearRow.ifacesOut == Tryz.f3.resultTypes.toList.any (Tryz.prog.ifacesRec ·)))=true:=by kernel_rfl
theorem FnSitHear_j21:((Rows.fnSitHearRow.loopsOut == Tryz.f3.resultTypes.toList.any (Tryz.prog.loopsFrom ·)))=true:=by kernel_rfl
theorem FnSitHear_j22:((Rows.fnSitHearRow.plainKeys == Tryz.prog.plainKeys))=true:=by kernel_rfl
theorem FnSitHear_j23:(Rows.fnSitHearRow.shortTexts.isNone)=true:=by kernel_rfl
theorem FnSitHear_j24:(Tryz.prog.stopsHeard)=true:=by kernel_rfl
theorem FnSitHear_j25:(Tryz.prog.mayEnter)=true:=by kernel_rfl
theorem FnSitHear_j26:((Rows.fnSitHearRow.lifted == Tryz.prog.liftsFinal))=true:=by kernel_rfl
theorem FnSitHear_j27:((Tryz.prog.make == some Rows.fnSitHearRow.make))=true:=by kernel_rfl
theorem FnSitHear_j28:(Jhr Tryz.prog Tryz.f3 Rows.fnSitHearRow)=true:=by kernel_rfl
theorem FnSitHear_j29:((Rows.fnSitHearRow.pinned == Rows.fnSitHearRow.pinnedBy))=true:=by kernel_rfl
theorem FnSitHear_j30:((Rows.fnSitHearRow.veiled == (Tryz.f3.params.toList++Rows.fnSitHearSpec.plain.varTypes Tryz.prog++Tryz.f3.resultTypes.toList).any (Tryz.prog.veiledRec ·)))=true:=by kernel_rfl
theorem FnSitHear_j31:(Rows.fnSitHearRow.veiledFits Tryz.prog Tryz.f3.params.toList (Tryz.f3.params.toList++Rows.fnSitHearSpec.plain.varTypes Tryz.prog++Tryz.f3.resultTypes.toList))=true:=by kernel_rfl
end Go.Proofs.YtofcmnglieaoeaaGreatDoor
