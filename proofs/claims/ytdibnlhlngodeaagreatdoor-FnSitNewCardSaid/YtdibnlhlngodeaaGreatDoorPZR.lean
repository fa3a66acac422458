import Derived.Test.YtdibnlhlngodeaaGreatDoorPZG
import Derived.Test.YtdibnlhlngodeaaGreatDoorPZH
set_option linter.unusedVariables false
set_option linter.unusedSimpArgs false
/- Sizes and copies of calls, of what was done, of sites, clerks and messages: over residual programs. -/
namespace Go.Proofs.YtdibnlhlngodeaaGreatDoor
open Go Go.Tm
def fitL {α : Type} (f : α → Prop) (l : List α) : Prop := l.length ≤ 2000000 ∧ ∀ x ∈ l, f x
def fitCal (x : Cal) : Prop := x.args.length ≤ 2000000
def fitDon (x : Don) : Prop := x.tells.length ≤ 2000000
structure Msg where
  kind : Int
  to : Int
  frm : Int
  round : Int
  call : Cal
  vals : List Int
  seqs : List Int
  done : List Don
  deriving DecidableEq
def Msg.cells (x : Msg) : List D := [dI x.kind, dI x.to, dI x.frm, dI x.round, dI x.call.client, dI x.call.seq, dI x.call.act, .s (dL x.call.args), .s (dL x.vals), .s (dL x.seqs), .s (dDs x.done)]
def Msg.g (x : Msg) : D := .g x.cells
end Go.Proofs.YtdibnlhlngodeaaGreatDoor