/- The law FnCatMore: for every input it returns true, and its argument reads behind the call as it read before. No conditions beyond the given row's own. -/
import Derived.Test.YtbikgdcgoogngaaPU
import Derived.Test.YtbikgdcgoogngaaG
import Derived.Test.YtbikgdcgoogngaaTd
namespace Go.Proofs.Ytbikgdcgoogngaa
open Go Go.Tm Go.ChangeShapes Go.WideShapes Go.ChangeAt Go.RowKit

theorem FnCatMore_own : ownKnob Try.prog.godebug = none := by kernel_rfl
theorem FnCatMore_laid : laidOutB Try.prog = true := by kernel_rfl

theorem FnCatMore_lifted (os : Os) (started : os.Started) (H : Type) (enc : TypeId × Value → H) :
    ReturnsInHanded {} Try.checked os 12 .any (Rows.fnCatMoreSpec.pre6 enc Try.prog Try.f12 Rows.fnCatMoreRow.domain false) (Rows.fnCatMoreSpec.post enc Try.prog Try.f12 false true false false) :=
  lift1 (C := Try.checked) (L := L) (fl := true) (t := 22) (e := 5) (tb := 4) FnCatMore_own started (by kernel_rfl) Try.func12
    (ChangeSpec.witness6 (enc := enc) (C := Try.checked) false ⟨#[], #[.slice none 0 0], []⟩ 8 (by kernel_rfl) (by kernel_rfl) (by kernel_rfl) (by kernel_rfl))
    Try.params12 (by kernel_rfl) (by kernel_rfl) (by kernel_rfl) (by kernel_rfl) (by kernel_rfl)
    FnCatMore_laid (by kernel_rfl) (of_decide_eq_true (by kernel_rfl)) rfl (fun _ => rfl)
    (by kernel_rfl) allGood rfl (fun ns hb => ev_FnCatMore ns (bytes_in hb))

theorem FnCatMore_holds : Rows.FnCatMoreSaid :=
  OpenClaim.holds_of_wide 12 Try.f12 rfl rfl rfl rfl rfl rfl rfl ⟨rfl, rfl, rfl, rfl, rfl⟩ rfl rfl rfl rfl rfl (by kernel_rfl) Try.func12 (by kernel_rfl)
    (of_decide_eq_true (by kernel_rfl)) (by unfold Func.isWrapper; first | (rw [if_pos (by decide +kernel)]; kernel_rfl) | (rw [if_neg (by decide +kernel)]; exact ⟨rfl, rfl⟩))
    (fun os started H enc _ => FnCatMore_lifted os started H enc)

end Go.Proofs.Ytbikgdcgoogngaa
#print axioms Go.Proofs.Ytbikgdcgoogngaa.FnCatMore_holds
