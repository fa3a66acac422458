import Derived.Test.YtdibnlhlngodeaaGreatDoorPZG
set_option linter.unusedVariables false
set_option linter.unusedSimpArgs false
/- The program's ClkNew answers as the reference's: over residual programs. -/
namespace Go.Proofs.YtdibnlhlngodeaaGreatDoor
open Go Go.Tm
structure Clk where
  up : Bool
  round : Int
  base : List Int
  done : List Don
  wants : List Cal
  got : List Got
  deriving DecidableEq
def Clk.cells (s : Clk) : List D := [dB s.up, dI s.round, .s (dL s.base), .s (dDs s.done), .s (dCs s.wants), .s (dGs s.got)]
end Go.Proofs.YtdibnlhlngodeaaGreatDoor
