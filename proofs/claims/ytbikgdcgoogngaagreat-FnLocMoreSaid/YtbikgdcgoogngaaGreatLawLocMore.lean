/- The law FnLocMore: for every input it returns true, and its argument reads behind the call as it read before. No conditions beyond the given row's own. -/
import Derived.Test.YtbikgdcgoogngaaGreatPZA
import Derived.Test.YtbikgdcgoogngaaGreatG
import Derived.Test.YtbikgdcgoogngaaGreatTd
namespace Go.Proofs.YtbikgdcgoogngaaGreat
open Go Go.Tm Go.ChangeShapes Go.WideShapes Go.ChangeAt Go.RowKit

theorem FnLocMore_own : ownKnob Tryz.prog.godebug = none := by kernel_rfl
theorem FnLocMore_laid : laidOutB Tryz.prog = true := by kernel_rfl

theorem FnLocMore_lifted (os : Os) (started : os.Started) (H : Type) (enc : TypeId × Value → H) :
    ReturnsInHanded {} Tryz.checked os 3 .any (Rows.fnLocMoreSpec.pre6 enc Tryz.prog Tryz.f3 Rows.fnLocMoreRow.domain false) (Rows.fnLocMoreSpec.post enc Tryz.prog Tryz.f3 false true false false) :=
  lift1 (C := Tryz.checked) (L := L) (fl := true) (t := 22) (e := 5) (tb := 4) FnLocMore_own started (by kernel_rfl) Tryz.func3
    (ChangeSpec.witness6 (enc := enc) (C := Tryz.checked) false ⟨#[], #[.slice none 0 0], []⟩ 8 (by kernel_rfl) (by kernel_rfl) (by kernel_rfl) (by kernel_rfl))
    Tryz.params3 (by kernel_rfl) (by kernel_rfl) (by kernel_rfl) (by kernel_rfl) (by kernel_rfl)
    FnLocMore_laid (by kernel_rfl) (of_decide_eq_true (by kernel_rfl)) rfl (fun _ => rfl)
    (by kernel_rfl) allGood rfl (fun ns hb => ev_FnLocMore ns (bytes_in hb))

theorem FnLocMore_holds : Rows.FnLocMoreSaid :=
  OpenClaim.holds_of_wide 3 Tryz.f3 rfl rfl rfl rfl rfl rfl rfl ⟨rfl, rfl, rfl, rfl, rfl⟩ rfl rfl rfl rfl rfl (by kernel_rfl) Tryz.func3 (by kernel_rfl)
    (of_decide_eq_true (by kernel_rfl)) (by unfold Func.isWrapper; first | (rw [if_pos (by decide +kernel)]; kernel_rfl) | (rw [if_neg (by decide +kernel)]; exact ⟨rfl, rfl⟩))
    (fun os started H enc _ => FnLocMore_lifted os started H enc)

end Go.Proofs.YtbikgdcgoogngaaGreat
#print axioms Go.Proofs.YtbikgdcgoogngaaGreat.FnLocMore_holds
