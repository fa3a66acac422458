/- What draws of forms, lines, acts come to. -/
import Derived.Test.YtdibnlhlngodeaaGreatDoorPD
namespace Go.Proofs.YtdibnlhlngodeaaGreatDoor
open Go Go.Tm

/-- A line's form takes up just so much. -/
def slim (l : Line) : Prop := l.f.c.length ≤ 3 ∧ l.f.d.length ≤ 2

end Go.Proofs.YtdibnlhlngodeaaGreatDoor
