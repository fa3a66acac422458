/- The law FnRowsOk: for every input it returns true, and its argument reads behind the call as it read before. No conditions beyond the given row's own. -/
import Derived.Test.YtbikgdcgoogngaaPQ
import Derived.Test.YtbikgdcgoogngaaG
import Derived.Test.YtbikgdcgoogngaaTc
namespace Go.Proofs.Ytbikgdcgoogngaa
open Go Go.Tm Go.ChangeShapes Go.WideShapes Go.ChangeAt Go.RowKit

theorem FnRowsOk_own : ownKnob Try.prog.godebug = none := by kernel_rfl
theorem FnRowsOk_laid : laidOutB Try.prog = true := by kernel_rfl

theorem FnRowsOk_lifted (os : Os) (started : os.Started) (H : Type) (enc : TypeId × Value → H) :
    ReturnsInHanded {} Try.checked os 4 .any (Rows.fnRowsOkSpec.pre6 enc Try.prog Try.f4 Rows.fnRowsOkRow.domain false) (Rows.fnRowsOkSpec.post enc Try.prog Try.f4 false true false false) :=
  lift1 (C := Try.checked) (L := L) (fl := true) (t := 22) (e := 5) (tb := 4) FnRowsOk_own started (by kernel_rfl) Try.func4
    (ChangeSpec.witness6 (enc := enc) (C := Try.checked) false ⟨#[], #[.slice none 0 0], []⟩ 8 (by kernel_rfl) (by kernel_rfl) (by kernel_rfl) (by kernel_rfl))
    Try.params4 (by kernel_rfl) (by kernel_rfl) (by kernel_rfl) (by kernel_rfl) (by kernel_rfl)
    FnRowsOk_laid (by kernel_rfl) (of_decide_eq_true (by kernel_rfl)) rfl (fun _ => rfl)
    (by kernel_rfl) allGood rfl (fun ns hb => ev_FnRowsOk ns (bytes_in hb))

theorem FnRowsOk_holds : Rows.FnRowsOkSaid :=
  OpenClaim.holds_of_wide 4 Try.f4 rfl rfl rfl rfl rfl rfl rfl ⟨rfl, rfl, rfl, rfl, rfl⟩ rfl rfl rfl rfl rfl (by kernel_rfl) Try.func4 (by kernel_rfl)
    (of_decide_eq_true (by kernel_rfl)) (by unfold Func.isWrapper; first | (rw [if_pos (by decide +kernel)]; kernel_rfl) | (rw [if_neg (by decide +kernel)]; exact ⟨rfl, rfl⟩))
    (fun os started H enc _ => FnRowsOk_lifted os started H enc)

end Go.Proofs.Ytbikgdcgoogngaa
#print axioms Go.Proofs.Ytbikgdcgoogngaa.FnRowsOk_holds
