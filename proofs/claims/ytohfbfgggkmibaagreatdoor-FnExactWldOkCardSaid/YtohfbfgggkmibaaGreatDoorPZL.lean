import Derived.Test.YtohfbfgggkmibaaGreatDoorPZH
set_option linter.unusedVariables false
set_option linter.unusedSimpArgs false
/- Marks,and what is held,of plans,sites and clients: over residual programs. Printed by wip/tools/pzl.py. -/
namespace Go.Proofs.YtohfbfgggkmibaaGreatDoor
open Go Go.Tm
def Sit.w (s : Sit) : Nat := 3 + s.base.length + s.added.length + wts Don.w s.done
def Sit.g (s : Sit) : D := .g s.cells
structure Con where
  seq : Int
  busy : Bool
  call : Cal
  code : Int
  tells : List Int
  deriving DecidableEq
def Con.cells (s : Con) : List D := [dI s.seq,dB s.busy,dI s.call.client,dI s.call.seq,dI s.call.act,.s (dL s.call.args),dI s.code,.s (dL s.tells)]
def Con.g (s : Con) : D := .g s.cells
def fitCon (s : Con) : Prop := s.call.args.length ≤ 2000000 ∧ s.tells.length ≤ 2000000
def Con.w (s : Con) : Nat := 6 + s.call.args.length + s.tells.length
end Go.Proofs.YtohfbfgggkmibaaGreatDoor
