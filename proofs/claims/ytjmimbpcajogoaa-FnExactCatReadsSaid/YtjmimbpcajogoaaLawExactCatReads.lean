/- The law FnExactCatReads: for every input it returns true, and its arguments read behind the call as they read before. No conditions beyond the given row's own. -/
import Derived.Test.YtjmimbpcajogoaaPZF
import Derived.Test.YtjmimbpcajogoaaG
import Derived.Test.YtjmimbpcajogoaaTd
namespace Go.Proofs.Ytjmimbpcajogoaa
open Go Go.Tm Go.ChangeShapes Go.WideShapes Go.ChangeAt Go.RowKit

theorem FnExactCatReads_own : ownKnob Try.prog.godebug = none := by kernel_rfl
theorem FnExactCatReads_laid : laidOutB Try.prog = true := by kernel_rfl

theorem FnExactCatReads_lifted (os : Os) (started : os.Started) (H : Type) (enc : TypeId × Value → H) :
    ReturnsInHanded {} Try.checked os 4 .any (Rows.fnExactCatReadsSpec.pre6 enc Try.prog Try.f4 Rows.fnExactCatReadsRow.domain false) (Rows.fnExactCatReadsSpec.post enc Try.prog Try.f4 false true false false) :=
  liftS (C := Try.checked) (L := L) (fl := true) (ts := [22]) (ss := [.sl tyLine]) (tb := 4) (pars := [.one .s]) (n := 8) FnExactCatReads_own started (by kernel_rfl) Try.func4
    (ChangeSpec.witness6 (enc := enc) (C := Try.checked) false ⟨#[], #[.slice none 0 0], []⟩ 8 (by kernel_rfl) (by kernel_rfl) (by kernel_rfl) (by kernel_rfl))
    (congrArg Array.toList Try.params4) (by kernel_rfl) (by kernel_rfl) (by kernel_rfl) (by kernel_rfl)
    FnExactCatReads_laid (by kernel_rfl) rfl (fun ds h => match ds, h with | [_], _ => rfl)
    (by kernel_rfl) allGood rfl arg_FnExactCatReads

theorem FnExactCatReads_holds : Rows.FnExactCatReadsSaid :=
  OpenClaim.holds_of_wide 4 Try.f4 rfl rfl rfl rfl rfl rfl rfl ⟨rfl, rfl, rfl, rfl, rfl⟩ rfl rfl rfl rfl rfl (by kernel_rfl) Try.func4 (by kernel_rfl)
    (of_decide_eq_true (by kernel_rfl)) (by unfold Func.isWrapper; first | (rw [if_pos (by decide +kernel)]; kernel_rfl) | (rw [if_neg (by decide +kernel)]; exact ⟨rfl, rfl⟩))
    (fun os started H enc _ => FnExactCatReads_lifted os started H enc)

end Go.Proofs.Ytjmimbpcajogoaa
#print axioms Go.Proofs.Ytjmimbpcajogoaa.FnExactCatReads_holds
