/- What the draws come to: a reader's picks, and what is drawn by them. -/
import Derived.Test.YtdibnlhlngodeaaGreatDoorR
import Derived.Test.YtdibnlhlngodeaaGreatDoorTd
set_option linter.unusedVariables false
set_option linter.unusedSimpArgs false
namespace Go.Proofs.YtdibnlhlngodeaaGreatDoor
open Go Go.Tm

/-- A reader: bytes, and a place that is not too far. -/
structure Rdr (bs : List Int) (p : Int) : Prop where
  byte : ∀ x ∈ bs, 0 ≤ x ∧ x < 256
  len : bs.length ≤ 2000
  pos : 0 ≤ p
  far : p ≤ 1000000000000

end Go.Proofs.YtdibnlhlngodeaaGreatDoor
