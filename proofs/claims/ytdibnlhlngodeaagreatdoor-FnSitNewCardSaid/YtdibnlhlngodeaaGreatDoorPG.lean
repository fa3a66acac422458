import Derived.Test.YtdibnlhlngodeaaGreatDoorPD
import Derived.Test.YtdibnlhlngodeaaGreatDoorPE
import Derived.Test.YtdibnlhlngodeaaGreatDoorTd
set_option linter.unusedVariables false
set_option linter.unusedSimpArgs false
/- What sums of forms and the ways through an act come to: the reference's. -/
namespace Go.Proofs.YtdibnlhlngodeaaGreatDoor
open Go Go.Tm
theorem wrapsum {x y n M N : Int} (hx : -M ≤ x ∧ x ≤ M) (hy : -M ≤ y ∧ y ≤ M) (hn : -N ≤ n ∧ n ≤ N) (hM : M ≤ 1000000000) (hN : N ≤ 1000000000) : IntKind.i64.wrap (x + IntKind.i64.wrap (n * y)) = x + n * y := by
  have h := mul_lim (A := 1000000000) (B := 1000000000) (n := n) (y := y) (by omega) (by omega)
  rw [w64 (n := n * y) (by omega) (by omega), w64 (by omega) (by omega)]
end Go.Proofs.YtdibnlhlngodeaaGreatDoor
