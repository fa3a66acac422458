/- The law FnTrtBounds: for every input it returns true, and its argument reads behind the call as it read before. No conditions beyond the given row's own. -/
import Derived.Test.YtbikgdcgoogngaaPW
import Derived.Test.YtbikgdcgoogngaaG
import Derived.Test.YtbikgdcgoogngaaTd
namespace Go.Proofs.Ytbikgdcgoogngaa
open Go Go.Tm Go.ChangeShapes Go.WideShapes Go.ChangeAt Go.RowKit

theorem FnTrtBounds_own : ownKnob Try.prog.godebug = none := by kernel_rfl
theorem FnTrtBounds_laid : laidOutB Try.prog = true := by kernel_rfl

theorem FnTrtBounds_lifted (os : Os) (started : os.Started) (H : Type) (enc : TypeId × Value → H) :
    ReturnsInHanded {} Try.checked os 8 .any (Rows.fnTrtBoundsSpec.pre6 enc Try.prog Try.f8 Rows.fnTrtBoundsRow.domain false) (Rows.fnTrtBoundsSpec.post enc Try.prog Try.f8 false true false false) :=
  lift2 (C := Try.checked) (L := L) (fl := true) (t := 22) (e := 5) (tb := 4) FnTrtBounds_own started (by kernel_rfl) Try.func8
    (ChangeSpec.witness6 (enc := enc) (C := Try.checked) false ⟨#[], #[.slice none 0 0, .slice none 0 0], []⟩ 8 (by kernel_rfl) (by kernel_rfl) (by kernel_rfl) (by kernel_rfl))
    Try.params8 (by kernel_rfl) (by kernel_rfl) (by kernel_rfl) (by kernel_rfl) (by kernel_rfl)
    FnTrtBounds_laid (by kernel_rfl) (of_decide_eq_true (by kernel_rfl)) rfl (fun _ _ => rfl)
    (by kernel_rfl) allGood rfl (fun ns ms hb hb2 => ev_FnTrtBounds ns ms (bytes_in hb) (bytes_in hb2))

theorem FnTrtBounds_holds : Rows.FnTrtBoundsSaid :=
  OpenClaim.holds_of_wide 8 Try.f8 rfl rfl rfl rfl rfl rfl rfl ⟨rfl, rfl, rfl, rfl, rfl⟩ rfl rfl rfl rfl rfl (by kernel_rfl) Try.func8 (by kernel_rfl)
    (of_decide_eq_true (by kernel_rfl)) (by unfold Func.isWrapper; first | (rw [if_pos (by decide +kernel)]; kernel_rfl) | (rw [if_neg (by decide +kernel)]; exact ⟨rfl, rfl⟩))
    (fun os started H enc _ => FnTrtBounds_lifted os started H enc)

end Go.Proofs.Ytbikgdcgoogngaa
#print axioms Go.Proofs.Ytbikgdcgoogngaa.FnTrtBounds_holds
