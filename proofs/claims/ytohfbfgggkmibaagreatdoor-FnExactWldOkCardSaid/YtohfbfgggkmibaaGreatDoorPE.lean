import Derived.Test.YtohfbfgggkmibaaGreatDoorPD
set_option linter.unusedVariables false
set_option linter.unusedSimpArgs false
/- What draws of forms,lines,acts come to. -/
namespace Go.Proofs.YtohfbfgggkmibaaGreatDoor
open Go Go.Tm
theorem ev_FrmZero : Ev L f_k1j [] Frm.zero.cells := Ev.eq (vs := []) L_k1j rfl (WR.done rfl)
def slim (l : Line) : Prop := l.f.c.length ≤ 3 ∧ l.f.d.length ≤ 2
end Go.Proofs.YtohfbfgggkmibaaGreatDoor
