import Derived.Test.YtdibnlhlngodeaaGreatDoorPS
import Derived.Test.YtdibnlhlngodeaaGreatDoorPK
import Derived.Test.YtdibnlhlngodeaaGreatDoorTd
set_option linter.unusedVariables false
set_option linter.unusedSimpArgs false
/- There is one way, and it is the act; what an act does not read turns no answer; with an act more there is more: over residual programs. -/
namespace Go.Proofs.YtdibnlhlngodeaaGreatDoor
open Go Go.Tm
theorem sArgOk (l : List Int) (hl : l.length ≤ 2000000) : Ev L f_k1q [.s (dL l)] [dB (argOk l)] :=
  Ev.eq (vs := [.l (dL l)]) L_k1q rfl (WR.ev (ev_l1All l 2 9 hl (by omega) (by omega)) rfl rfl rfl (WR.done rfl))
end Go.Proofs.YtdibnlhlngodeaaGreatDoor
