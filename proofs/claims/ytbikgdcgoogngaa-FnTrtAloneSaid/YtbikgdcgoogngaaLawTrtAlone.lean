/- The law FnTrtAlone: for every input it returns true, and its argument reads behind the call as it read before. No conditions beyond the given row's own. -/
import Derived.Test.YtbikgdcgoogngaaPV
import Derived.Test.YtbikgdcgoogngaaG
import Derived.Test.YtbikgdcgoogngaaTd
namespace Go.Proofs.Ytbikgdcgoogngaa
open Go Go.Tm Go.ChangeShapes Go.WideShapes Go.ChangeAt Go.RowKit

theorem FnTrtAlone_own : ownKnob Try.prog.godebug = none := by kernel_rfl
theorem FnTrtAlone_laid : laidOutB Try.prog = true := by kernel_rfl

theorem FnTrtAlone_lifted (os : Os) (started : os.Started) (H : Type) (enc : TypeId × Value → H) :
    ReturnsInHanded {} Try.checked os 6 .any (Rows.fnTrtAloneSpec.pre6 enc Try.prog Try.f6 Rows.fnTrtAloneRow.domain false) (Rows.fnTrtAloneSpec.post enc Try.prog Try.f6 false true false false) :=
  lift1 (C := Try.checked) (L := L) (fl := true) (t := 22) (e := 5) (tb := 4) FnTrtAlone_own started (by kernel_rfl) Try.func6
    (ChangeSpec.witness6 (enc := enc) (C := Try.checked) false ⟨#[], #[.slice none 0 0], []⟩ 8 (by kernel_rfl) (by kernel_rfl) (by kernel_rfl) (by kernel_rfl))
    Try.params6 (by kernel_rfl) (by kernel_rfl) (by kernel_rfl) (by kernel_rfl) (by kernel_rfl)
    FnTrtAlone_laid (by kernel_rfl) (of_decide_eq_true (by kernel_rfl)) rfl (fun _ => rfl)
    (by kernel_rfl) allGood rfl (fun ns hb => ev_FnTrtAlone ns (bytes_in hb))

theorem FnTrtAlone_holds : Rows.FnTrtAloneSaid :=
  OpenClaim.holds_of_wide 6 Try.f6 rfl rfl rfl rfl rfl rfl rfl ⟨rfl, rfl, rfl, rfl, rfl⟩ rfl rfl rfl rfl rfl (by kernel_rfl) Try.func6 (by kernel_rfl)
    (of_decide_eq_true (by kernel_rfl)) (by unfold Func.isWrapper; first | (rw [if_pos (by decide +kernel)]; kernel_rfl) | (rw [if_neg (by decide +kernel)]; exact ⟨rfl, rfl⟩))
    (fun os started H enc _ => FnTrtAlone_lifted os started H enc)

end Go.Proofs.Ytbikgdcgoogngaa
#print axioms Go.Proofs.Ytbikgdcgoogngaa.FnTrtAlone_holds
