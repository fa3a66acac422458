/- The law FnExactWldNew: for every input it returns true, and its arguments read behind the call as they read before. No conditions beyond the given row's own. -/
import Derived.Test.YtnmiphelhfphaaaGreatPZO
import Derived.Test.YtnmiphelhfphaaaGreatG
import Derived.Test.YtnmiphelhfphaaaGreatTd
namespace Go.Proofs.YtnmiphelhfphaaaGreat
open Go Go.Tm Go.ChangeShapes Go.WideShapes Go.ChangeAt Go.RowKit

theorem FnExactWldNew_own : ownKnob Tryz.prog.godebug = none := by kernel_rfl
theorem FnExactWldNew_laid : laidOutB Tryz.prog = true := by kernel_rfl

theorem FnExactWldNew_lifted (os : Os) (started : os.Started) (H : Type) (enc : TypeId × Value → H) :
    ReturnsInHanded {} Tryz.checked os 3 .any (Rows.fnExactWldNewSpec.pre6 enc Tryz.prog Tryz.f3 Rows.fnExactWldNewRow.domain false) (Rows.fnExactWldNewSpec.post enc Tryz.prog Tryz.f3 false true false false) :=
  liftS (C := Tryz.checked) (L := L) (fl := true) (ts := [25]) (ss := [tyPlan]) (tb := 4) (pars := [.g [.i .i64, .s, .s, .s]]) (n := 8) FnExactWldNew_own started (by kernel_rfl) Tryz.func3
    (ChangeSpec.witness6 (enc := enc) (C := Tryz.checked) false ⟨#[], #[.agg #[.int .i64 0, .slice none 0 0, .slice none 0 0, .slice none 0 0]], []⟩ 8 (by kernel_rfl) (by kernel_rfl) (by kernel_rfl) (by kernel_rfl))
    (congrArg Array.toList Tryz.params3) (by kernel_rfl) (by kernel_rfl) (by kernel_rfl) (by kernel_rfl)
    FnExactWldNew_laid (by kernel_rfl) rfl (fun ds h => match ds, h with | [_], _ => rfl)
    (by kernel_rfl) allGood rfl arg_FnExactWldNew

theorem FnExactWldNew_holds : Rows.FnExactWldNewSaid :=
  OpenClaim.holds_of_wide 3 Tryz.f3 rfl rfl rfl rfl rfl rfl rfl ⟨rfl, rfl, rfl, rfl, rfl⟩ rfl rfl rfl rfl rfl (by kernel_rfl) Tryz.func3 (by kernel_rfl)
    (of_decide_eq_true (by kernel_rfl)) (by unfold Func.isWrapper; first | (rw [if_pos (by decide +kernel)]; kernel_rfl) | (rw [if_neg (by decide +kernel)]; exact ⟨rfl, rfl⟩))
    (fun os started H enc _ => FnExactWldNew_lifted os started H enc)

end Go.Proofs.YtnmiphelhfphaaaGreat
#print axioms Go.Proofs.YtnmiphelhfphaaaGreat.FnExactWldNew_holds
