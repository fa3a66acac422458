/- The law FnExactCatForms: for every input it returns true, and its arguments read behind the call as they read before. No conditions beyond the given row's own. -/
import Derived.Test.YtjmimbpcajogoaaPZK
import Derived.Test.YtjmimbpcajogoaaG
import Derived.Test.YtjmimbpcajogoaaTd
namespace Go.Proofs.Ytjmimbpcajogoaa
open Go Go.Tm Go.ChangeShapes Go.WideShapes Go.ChangeAt Go.RowKit

theorem FnExactCatForms_own : ownKnob Try.prog.godebug = none := by kernel_rfl
theorem FnExactCatForms_laid : laidOutB Try.prog = true := by kernel_rfl

theorem FnExactCatForms_lifted (os : Os) (started : os.Started) (H : Type) (enc : TypeId × Value → H) :
    ReturnsInHanded {} Try.checked os 7 .any (Rows.fnExactCatFormsSpec.pre6 enc Try.prog Try.f7 Rows.fnExactCatFormsRow.domain false) (Rows.fnExactCatFormsSpec.post enc Try.prog Try.f7 false true false false) :=
  liftS (C := Try.checked) (L := L) (fl := true) (ts := [33]) (ss := [.sl (.sl tyLine)]) (tb := 4) (pars := [.one .s]) (n := 8) FnExactCatForms_own started (by kernel_rfl) Try.func7
    (ChangeSpec.witness6 (enc := enc) (C := Try.checked) false ⟨#[], #[.slice none 0 0], []⟩ 8 (by kernel_rfl) (by kernel_rfl) (by kernel_rfl) (by kernel_rfl))
    (congrArg Array.toList Try.params7) (by kernel_rfl) (by kernel_rfl) (by kernel_rfl) (by kernel_rfl)
    FnExactCatForms_laid (by kernel_rfl) rfl (fun ds h => match ds, h with | [_], _ => rfl)
    (by kernel_rfl) allGood rfl arg_FnExactCatForms

theorem FnExactCatForms_holds : Rows.FnExactCatFormsSaid :=
  OpenClaim.holds_of_wide 7 Try.f7 rfl rfl rfl rfl rfl rfl rfl ⟨rfl, rfl, rfl, rfl, rfl⟩ rfl rfl rfl rfl rfl (by kernel_rfl) Try.func7 (by kernel_rfl)
    (of_decide_eq_true (by kernel_rfl)) (by unfold Func.isWrapper; first | (rw [if_pos (by decide +kernel)]; kernel_rfl) | (rw [if_neg (by decide +kernel)]; exact ⟨rfl, rfl⟩))
    (fun os started H enc _ => FnExactCatForms_lifted os started H enc)

end Go.Proofs.Ytjmimbpcajogoaa
#print axioms Go.Proofs.Ytjmimbpcajogoaa.FnExactCatForms_holds
