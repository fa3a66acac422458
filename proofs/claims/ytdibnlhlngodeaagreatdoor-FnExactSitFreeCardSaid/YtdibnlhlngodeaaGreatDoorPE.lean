import Derived.Test.YtdibnlhlngodeaaGreatDoorPD
set_option linter.unusedVariables false
set_option linter.unusedSimpArgs false
/- What draws of forms, lines, acts come to. -/
namespace Go.Proofs.YtdibnlhlngodeaaGreatDoor
open Go Go.Tm
theorem ev_FrmZero : Ev L f_kv [] Frm.zero.cells := Ev.eq (vs := []) L_kv rfl (WR.done rfl)
def slim (l : Line) : Prop := l.f.c.length ≤ 3 ∧ l.f.d.length ≤ 2
end Go.Proofs.YtdibnlhlngodeaaGreatDoor
