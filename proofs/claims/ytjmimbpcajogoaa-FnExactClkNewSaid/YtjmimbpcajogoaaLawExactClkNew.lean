/- The law FnExactClkNew: for every input it returns true, and its arguments read behind the call as they read before. No conditions beyond the given row's own. -/
import Derived.Test.YtjmimbpcajogoaaPZH
import Derived.Test.YtjmimbpcajogoaaG
import Derived.Test.YtjmimbpcajogoaaTd
namespace Go.Proofs.Ytjmimbpcajogoaa
open Go Go.Tm Go.ChangeShapes Go.WideShapes Go.ChangeAt Go.RowKit

theorem FnExactClkNew_own : ownKnob Try.prog.godebug = none := by kernel_rfl
theorem FnExactClkNew_laid : laidOutB Try.prog = true := by kernel_rfl

theorem FnExactClkNew_lifted (os : Os) (started : os.Started) (H : Type) (enc : TypeId × Value → H) :
    ReturnsInHanded {} Try.checked os 9 .any (Rows.fnExactClkNewSpec.pre6 enc Try.prog Try.f9 Rows.fnExactClkNewRow.domain false) (Rows.fnExactClkNewSpec.post enc Try.prog Try.f9 false true false false) :=
  liftS (C := Try.checked) (L := L) (fl := true) (ts := [51]) (ss := [tyPlan]) (tb := 4) (pars := [.g [.i .i64, .s, .s, .s]]) (n := 8) FnExactClkNew_own started (by kernel_rfl) Try.func9
    (ChangeSpec.witness6 (enc := enc) (C := Try.checked) false ⟨#[], #[.agg #[.int .i64 0, .slice none 0 0, .slice none 0 0, .slice none 0 0]], []⟩ 8 (by kernel_rfl) (by kernel_rfl) (by kernel_rfl) (by kernel_rfl))
    (congrArg Array.toList Try.params9) (by kernel_rfl) (by kernel_rfl) (by kernel_rfl) (by kernel_rfl)
    FnExactClkNew_laid (by kernel_rfl) rfl (fun ds h => match ds, h with | [_], _ => rfl)
    (by kernel_rfl) allGood rfl arg_FnExactClkNew

theorem FnExactClkNew_holds : Rows.FnExactClkNewSaid :=
  OpenClaim.holds_of_wide 9 Try.f9 rfl rfl rfl rfl rfl rfl rfl ⟨rfl, rfl, rfl, rfl, rfl⟩ rfl rfl rfl rfl rfl (by kernel_rfl) Try.func9 (by kernel_rfl)
    (of_decide_eq_true (by kernel_rfl)) (by unfold Func.isWrapper; first | (rw [if_pos (by decide +kernel)]; kernel_rfl) | (rw [if_neg (by decide +kernel)]; exact ⟨rfl, rfl⟩))
    (fun os started H enc _ => FnExactClkNew_lifted os started H enc)

end Go.Proofs.Ytjmimbpcajogoaa
#print axioms Go.Proofs.Ytjmimbpcajogoaa.FnExactClkNew_holds
