/- The law FnExactRowsOf: for every input it returns true, and its arguments read behind the call as they read before. No conditions beyond the given row's own. -/
import Derived.Test.YtjmimbpcajogoaaPZJ
import Derived.Test.YtjmimbpcajogoaaG
import Derived.Test.YtjmimbpcajogoaaTd
namespace Go.Proofs.Ytjmimbpcajogoaa
open Go Go.Tm Go.ChangeShapes Go.WideShapes Go.ChangeAt Go.RowKit

theorem FnExactRowsOf_own : ownKnob Try.prog.godebug = none := by kernel_rfl
theorem FnExactRowsOf_laid : laidOutB Try.prog = true := by kernel_rfl

theorem FnExactRowsOf_lifted (os : Os) (started : os.Started) (H : Type) (enc : TypeId × Value → H) :
    ReturnsInHanded {} Try.checked os 6 .any (Rows.fnExactRowsOfSpec.pre6 enc Try.prog Try.f6 Rows.fnExactRowsOfRow.domain false) (Rows.fnExactRowsOfSpec.post enc Try.prog Try.f6 false true false false) :=
  liftS (C := Try.checked) (L := L) (fl := true) (ts := [22]) (ss := [.sl tyLine]) (tb := 4) (pars := [.one .s]) (n := 8) FnExactRowsOf_own started (by kernel_rfl) Try.func6
    (ChangeSpec.witness6 (enc := enc) (C := Try.checked) false ⟨#[], #[.slice none 0 0], []⟩ 8 (by kernel_rfl) (by kernel_rfl) (by kernel_rfl) (by kernel_rfl))
    (congrArg Array.toList Try.params6) (by kernel_rfl) (by kernel_rfl) (by kernel_rfl) (by kernel_rfl)
    FnExactRowsOf_laid (by kernel_rfl) rfl (fun ds h => match ds, h with | [_], _ => rfl)
    (by kernel_rfl) allGood rfl arg_FnExactRowsOf

theorem FnExactRowsOf_holds : Rows.FnExactRowsOfSaid :=
  OpenClaim.holds_of_wide 6 Try.f6 rfl rfl rfl rfl rfl rfl rfl ⟨rfl, rfl, rfl, rfl, rfl⟩ rfl rfl rfl rfl rfl (by kernel_rfl) Try.func6 (by kernel_rfl)
    (of_decide_eq_true (by kernel_rfl)) (by unfold Func.isWrapper; first | (rw [if_pos (by decide +kernel)]; kernel_rfl) | (rw [if_neg (by decide +kernel)]; exact ⟨rfl, rfl⟩))
    (fun os started H enc _ => FnExactRowsOf_lifted os started H enc)

end Go.Proofs.Ytjmimbpcajogoaa
#print axioms Go.Proofs.Ytjmimbpcajogoaa.FnExactRowsOf_holds
