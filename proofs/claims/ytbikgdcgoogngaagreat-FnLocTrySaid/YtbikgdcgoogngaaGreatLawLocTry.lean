/- The law FnLocTry: for every input it returns true, and its argument reads behind the call as it read before. No conditions beyond the given row's own. -/
import Derived.Test.YtbikgdcgoogngaaGreatPZC
import Derived.Test.YtbikgdcgoogngaaGreatG
import Derived.Test.YtbikgdcgoogngaaGreatTd
namespace Go.Proofs.YtbikgdcgoogngaaGreat
open Go Go.Tm Go.ChangeShapes Go.WideShapes Go.ChangeAt Go.RowKit

theorem FnLocTry_own : ownKnob Tryz.prog.godebug = none := by kernel_rfl
theorem FnLocTry_laid : laidOutB Tryz.prog = true := by kernel_rfl

theorem FnLocTry_lifted (os : Os) (started : os.Started) (H : Type) (enc : TypeId × Value → H) :
    ReturnsInHanded {} Tryz.checked os 6 .any (Rows.fnLocTrySpec.pre6 enc Tryz.prog Tryz.f6 Rows.fnLocTryRow.domain false) (Rows.fnLocTrySpec.post enc Tryz.prog Tryz.f6 false true false false) :=
  lift2 (C := Tryz.checked) (L := L) (fl := true) (t := 22) (e := 5) (tb := 4) FnLocTry_own started (by kernel_rfl) Tryz.func6
    (ChangeSpec.witness6 (enc := enc) (C := Tryz.checked) false ⟨#[], #[.slice none 0 0, .slice none 0 0], []⟩ 8 (by kernel_rfl) (by kernel_rfl) (by kernel_rfl) (by kernel_rfl))
    Tryz.params6 (by kernel_rfl) (by kernel_rfl) (by kernel_rfl) (by kernel_rfl) (by kernel_rfl)
    FnLocTry_laid (by kernel_rfl) (of_decide_eq_true (by kernel_rfl)) rfl (fun _ _ => rfl)
    (by kernel_rfl) allGood rfl (fun ns ms hb hb2 => ev_FnLocTry ns ms (bytes_in hb) (bytes_in hb2))

theorem FnLocTry_holds : Rows.FnLocTrySaid :=
  OpenClaim.holds_of_wide 6 Tryz.f6 rfl rfl rfl rfl rfl rfl rfl ⟨rfl, rfl, rfl, rfl, rfl⟩ rfl rfl rfl rfl rfl (by kernel_rfl) Tryz.func6 (by kernel_rfl)
    (of_decide_eq_true (by kernel_rfl)) (by unfold Func.isWrapper; first | (rw [if_pos (by decide +kernel)]; kernel_rfl) | (rw [if_neg (by decide +kernel)]; exact ⟨rfl, rfl⟩))
    (fun os started H enc _ => FnLocTry_lifted os started H enc)

end Go.Proofs.YtbikgdcgoogngaaGreat
#print axioms Go.Proofs.YtbikgdcgoogngaaGreat.FnLocTry_holds
