import Derived.Test.YtdibnlhlngodeaaGreatDoorPJ
import Derived.Test.YtdibnlhlngodeaaGreatDoorPL
set_option linter.unusedVariables false
set_option linter.unusedSimpArgs false
/- All sites keep to a treaty just if each does: over residual programs. -/
namespace Go.Proofs.YtdibnlhlngodeaaGreatDoor
open Go Go.Tm
theorem PartsFit.fitLL {n : Nat} {ps : List (List Int)} (h : PartsFit n ps) (hn : n ≤ 2000000) : fitLL ps := ⟨by have := h.len; omega, fun p hp => by rw [(h.each p hp).1]; omega⟩
end Go.Proofs.YtdibnlhlngodeaaGreatDoor
