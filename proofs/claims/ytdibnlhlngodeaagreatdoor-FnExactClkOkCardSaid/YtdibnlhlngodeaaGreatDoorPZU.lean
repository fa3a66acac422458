import Derived.Test.YtdibnlhlngodeaaGreatDoorPZT
import Derived.Test.YtdibnlhlngodeaaGreatDoorPZI
set_option linter.unusedVariables false
set_option linter.unusedSimpArgs false
/- The program's SitOk and SitFree answer as the reference's: over residual programs. -/
namespace Go.Proofs.YtdibnlhlngodeaaGreatDoor
open Go Go.Tm
theorem plnOk_cat {p : Pln} (h : plnOk p = true) : catOk p.acts = true := by
  simp only [plnOk, Bool.and_eq_true] at h
  exact h.2.1
def keepOk (p : Pln) (b : List Int) (k : Int) (a : List Int) : Bool := keeps b p.gives (catForms p.acts) k a && stillM (catPins p.acts) a
end Go.Proofs.YtdibnlhlngodeaaGreatDoor
