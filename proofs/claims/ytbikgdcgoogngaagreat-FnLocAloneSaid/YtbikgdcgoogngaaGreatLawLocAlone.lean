/- The law FnLocAlone: for every input it returns true, and its argument reads behind the call as it read before. No conditions beyond the given row's own. -/
import Derived.Test.YtbikgdcgoogngaaGreatPZB
import Derived.Test.YtbikgdcgoogngaaGreatG
import Derived.Test.YtbikgdcgoogngaaGreatTd
namespace Go.Proofs.YtbikgdcgoogngaaGreat
open Go Go.Tm Go.ChangeShapes Go.WideShapes Go.ChangeAt Go.RowKit

theorem FnLocAlone_own : ownKnob Tryz.prog.godebug = none := by kernel_rfl
theorem FnLocAlone_laid : laidOutB Tryz.prog = true := by kernel_rfl

theorem FnLocAlone_lifted (os : Os) (started : os.Started) (H : Type) (enc : TypeId × Value → H) :
    ReturnsInHanded {} Tryz.checked os 5 .any (Rows.fnLocAloneSpec.pre6 enc Tryz.prog Tryz.f5 Rows.fnLocAloneRow.domain false) (Rows.fnLocAloneSpec.post enc Tryz.prog Tryz.f5 false true false false) :=
  lift1 (C := Tryz.checked) (L := L) (fl := true) (t := 22) (e := 5) (tb := 4) FnLocAlone_own started (by kernel_rfl) Tryz.func5
    (ChangeSpec.witness6 (enc := enc) (C := Tryz.checked) false ⟨#[], #[.slice none 0 0], []⟩ 8 (by kernel_rfl) (by kernel_rfl) (by kernel_rfl) (by kernel_rfl))
    Tryz.params5 (by kernel_rfl) (by kernel_rfl) (by kernel_rfl) (by kernel_rfl) (by kernel_rfl)
    FnLocAlone_laid (by kernel_rfl) (of_decide_eq_true (by kernel_rfl)) rfl (fun _ => rfl)
    (by kernel_rfl) allGood rfl (fun ns hb => ev_FnLocAlone ns (bytes_in hb))

theorem FnLocAlone_holds : Rows.FnLocAloneSaid :=
  OpenClaim.holds_of_wide 5 Tryz.f5 rfl rfl rfl rfl rfl rfl rfl ⟨rfl, rfl, rfl, rfl, rfl⟩ rfl rfl rfl rfl rfl (by kernel_rfl) Tryz.func5 (by kernel_rfl)
    (of_decide_eq_true (by kernel_rfl)) (by unfold Func.isWrapper; first | (rw [if_pos (by decide +kernel)]; kernel_rfl) | (rw [if_neg (by decide +kernel)]; exact ⟨rfl, rfl⟩))
    (fun os started H enc _ => FnLocAlone_lifted os started H enc)

end Go.Proofs.YtbikgdcgoogngaaGreat
#print axioms Go.Proofs.YtbikgdcgoogngaaGreat.FnLocAlone_holds
