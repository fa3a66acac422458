/- What draws of forms, lines, acts come to. -/
import Derived.Test.YtnmiphelhfphaaaGreatPD
namespace Go.Proofs.YtnmiphelhfphaaaGreat
open Go Go.Tm

/-- A line's form takes up just so much. -/
def slim (l : Line) : Prop := l.f.c.length ≤ 3 ∧ l.f.d.length ≤ 2

end Go.Proofs.YtnmiphelhfphaaaGreat
