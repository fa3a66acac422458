/- The program's MsgOk answers as the reference's: over residual programs. -/
import Derived.Test.YtdibnlhlngodeaaGreatDoorPZS
set_option linter.unusedVariables false
set_option linter.unusedSimpArgs false
namespace Go.Proofs.YtdibnlhlngodeaaGreatDoor
open Go Go.Tm

def em (n : Nat) : Bool := decide (n = 0)

def bareM (x : Msg) (c v s d : Bool) : Bool := (c || noneC x.call) && ((v || em x.vals.length) && ((s || em x.seqs.length) && (d || em x.done.length)))

/-! ### Messages -/

def siteIn (p : Pln) (k : Int) : Bool := inB k 0 ((p.gives.length : Int) - 1)

/-- Whether a message is ok, of a plan that is. -/
def msgOk (p : Pln) (x : Msg) : Bool := inB x.round 0 200 && (
  if x.kind = 1 then decide (x.to = -1) && (decide (x.frm = 0) && (decide (x.round = 0) && (callOk p x.call && bareM x true false false false)))
  else if x.kind = 2 then siteIn p x.to && (decide (x.frm = 0) && bareM x false false false false)
  else if x.kind = 3 then decide (x.to = -1) && (siteIn p x.frm && (allIn 3 20000 x.vals && (seqsOk p.n x.seqs && bareM x false true true false)))
  else if x.kind = 4 then siteIn p x.to && (decide (x.frm = 0) && (valOk x.vals && (doneOk p.n x.done && bareM x false true false true)))
  else false)

theorem ev_siteL (p : Pln) (k : Int) (hp : fitPln p) : Ev L f_spec_l1In [dI k, dI 0, dI (IntKind.i64.wrap (((dL p.gives).length : Int) - 1))] [dB (siteIn p k)] := by
  rw [dL_len, len_wrap hp.2.1]
  exact ev_l1In k 0 _

def msgOkP (p : Pln) (x : Msg) : Bool := plnOk p && msgOk p x

end Go.Proofs.YtdibnlhlngodeaaGreatDoor
