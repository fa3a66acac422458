import Derived.Test.YtdibnlhlngodeaaGreatDoorPZS
set_option linter.unusedVariables false
set_option linter.unusedSimpArgs false
/- The program's MsgOk answers as the reference's: over residual programs. -/
namespace Go.Proofs.YtdibnlhlngodeaaGreatDoor
open Go Go.Tm
def siteIn (p : Pln) (k : Int) : Bool := inB k 0 ((p.gives.length : Int) - 1)
theorem ev_siteL (p : Pln) (k : Int) (hp : fitPln p) : Ev L f_km [dI k, dI 0, dI (IntKind.i64.wrap (((dL p.gives).length : Int) - 1))] [dB (siteIn p k)] := by
  rw [dL_len, len_wrap hp.2.1]
  exact ev_l1In k 0 _
end Go.Proofs.YtdibnlhlngodeaaGreatDoor
