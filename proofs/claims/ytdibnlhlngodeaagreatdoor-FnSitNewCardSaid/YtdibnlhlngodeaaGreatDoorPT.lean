import Derived.Test.YtdibnlhlngodeaaGreatDoorPS
import Derived.Test.YtdibnlhlngodeaaGreatDoorPK
import Derived.Test.YtdibnlhlngodeaaGreatDoorTd
set_option linter.unusedVariables false
set_option linter.unusedSimpArgs false
/- There is one way, and it is the act; what an act does not read turns no answer; with an act more there is more: over residual programs. -/
namespace Go.Proofs.YtdibnlhlngodeaaGreatDoor
open Go Go.Tm
theorem ev_coRes (c1 c2 : Int) (t1 t2 : List Int) (hl : t1.length ≤ 2000000) : Ev L f_k1f [dI c1, .s (dL t1), dI c2, .s (dL t2)] [dB (decide (c1 = c2) && decide (t1 = t2))] := by
  refine Ev.eq (vs := [.i c1, .l (dL t1), .i c2, .l (dL t2)]) L_k1f rfl ?_
  refine WR.iteP (c1 = c2) rfl (fun h => ?_) (fun h => WR.done ?_)
  · refine WR.ev (ev_coInts t1 t2 hl) rfl rfl rfl (WR.done ?_)
    rw [decide_eq_true h]; rfl
  · rw [decide_eq_false h]; rfl
end Go.Proofs.YtdibnlhlngodeaaGreatDoor
