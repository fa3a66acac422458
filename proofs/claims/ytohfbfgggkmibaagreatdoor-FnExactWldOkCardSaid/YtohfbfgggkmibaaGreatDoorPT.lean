import Derived.Test.YtohfbfgggkmibaaGreatDoorPS
import Derived.Test.YtohfbfgggkmibaaGreatDoorPK
import Derived.Test.YtohfbfgggkmibaaGreatDoorTd
set_option linter.unusedVariables false
set_option linter.unusedSimpArgs false
/- There is one way,and it is the act; what an act does not read turns no answer; with an act more there is more: over residual programs. -/
namespace Go.Proofs.YtohfbfgggkmibaaGreatDoor
open Go Go.Tm
theorem sArgOk (l : List Int) (hl : l.length ≤ 2000000) : Ev L f_k1y [.s (dL l)] [dB (argOk l)] :=
  Ev.eq (vs := [.l (dL l)]) L_k1y rfl (WR.ev (ev_l1All l 2 9 hl (by omega) (by omega)) rfl rfl rfl (WR.done rfl))
end Go.Proofs.YtohfbfgggkmibaaGreatDoor
