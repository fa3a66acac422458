/- The law FnTrtAll: for every input it returns true, and its argument reads behind the call as it read before. No conditions beyond the given row's own. -/
import Derived.Test.YtbikgdcgoogngaaPM
import Derived.Test.YtbikgdcgoogngaaG
import Derived.Test.YtbikgdcgoogngaaTc
namespace Go.Proofs.Ytbikgdcgoogngaa
open Go Go.Tm Go.ChangeShapes Go.WideShapes Go.ChangeAt Go.RowKit

theorem FnTrtAll_own : ownKnob Try.prog.godebug = none := by kernel_rfl
theorem FnTrtAll_laid : laidOutB Try.prog = true := by kernel_rfl

theorem FnTrtAll_lifted (os : Os) (started : os.Started) (H : Type) (enc : TypeId × Value → H) :
    ReturnsInHanded {} Try.checked os 3 .any (Rows.fnTrtAllSpec.pre6 enc Try.prog Try.f3 Rows.fnTrtAllRow.domain false) (Rows.fnTrtAllSpec.post enc Try.prog Try.f3 false true false false) :=
  lift1 (C := Try.checked) (L := L) (fl := true) (t := 22) (e := 5) (tb := 4) FnTrtAll_own started (by kernel_rfl) Try.func3
    (ChangeSpec.witness6 (enc := enc) (C := Try.checked) false ⟨#[], #[.slice none 0 0], []⟩ 8 (by kernel_rfl) (by kernel_rfl) (by kernel_rfl) (by kernel_rfl))
    Try.params3 (by kernel_rfl) (by kernel_rfl) (by kernel_rfl) (by kernel_rfl) (by kernel_rfl)
    FnTrtAll_laid (by kernel_rfl) (of_decide_eq_true (by kernel_rfl)) rfl (fun _ => rfl)
    (by kernel_rfl) allGood rfl (fun ns hb => ev_FnTrtAll ns (bytes_in hb))

theorem FnTrtAll_holds : Rows.FnTrtAllSaid :=
  OpenClaim.holds_of_wide 3 Try.f3 rfl rfl rfl rfl rfl rfl rfl ⟨rfl, rfl, rfl, rfl, rfl⟩ rfl rfl rfl rfl rfl (by kernel_rfl) Try.func3 (by kernel_rfl)
    (of_decide_eq_true (by kernel_rfl)) (by unfold Func.isWrapper; first | (rw [if_pos (by decide +kernel)]; kernel_rfl) | (rw [if_neg (by decide +kernel)]; exact ⟨rfl, rfl⟩))
    (fun os started H enc _ => FnTrtAll_lifted os started H enc)

end Go.Proofs.Ytbikgdcgoogngaa
#print axioms Go.Proofs.Ytbikgdcgoogngaa.FnTrtAll_holds
