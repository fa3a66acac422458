/- What draws of numbers come to. -/
import Derived.Test.YtdibnlhlngodeaaGreatDoorPA
import Derived.Test.YtdibnlhlngodeaaGreatDoorTd
set_option linter.unusedVariables false
set_option linter.unusedSimpArgs false
namespace Go.Proofs.YtdibnlhlngodeaaGreatDoor
open Go Go.Tm

theorem Rdr.go {bs : List Int} {p q : Int} (h : Rdr bs p) (h1 : p ≤ q) (h2 : q ≤ 1000000000000) : Rdr bs q := ⟨h.byte, h.len, by have := h.pos; omega, h2⟩

end Go.Proofs.YtdibnlhlngodeaaGreatDoor
