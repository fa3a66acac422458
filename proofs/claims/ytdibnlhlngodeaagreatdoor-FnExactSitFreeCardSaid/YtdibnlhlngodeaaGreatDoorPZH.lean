import Derived.Test.YtdibnlhlngodeaaGreatDoorPZG
set_option linter.unusedVariables false
set_option linter.unusedSimpArgs false
/- The program's ClkNew answers as the reference's: over residual programs. -/
namespace Go.Proofs.YtdibnlhlngodeaaGreatDoor
open Go Go.Tm
theorem ev_eqPlnCall (a b : Cal) (hl : a.args.length ≤ 2000000) : Ev L f_k4p (a.cells ++ b.cells) [dB (decide (a = b))] := by
  refine Ev.eq (vs := [.i a.client, .i a.seq, .i a.act, .l (dL a.args), .i b.client, .i b.seq, .i b.act, .l (dL b.args)]) L_k4p rfl ?_
  have e : decide (a = b) = (decide (a.client = b.client) && (decide (a.seq = b.seq) && (decide (a.act = b.act) && decide (a.args = b.args)))) := by
    obtain ⟨a1, a2, a3, a4⟩ := a
    obtain ⟨b1, b2, b3, b4⟩ := b
    simp only [Cal.mk.injEq]
    by_cases h1 : a1 = b1 <;> by_cases h2 : a2 = b2 <;> by_cases h3 : a3 = b3 <;> by_cases h4 : a4 = b4 <;> simp [h1, h2, h3, h4]
  rw [e]
  refine WR.iteN (decide (a.client = b.client)) rfl (fun h => WR.done (by show [dB false] = _; rw [h]; rfl)) (fun h => ?_)
  refine WR.iteN (decide (a.seq = b.seq)) rfl (fun h2 => WR.done (by show [dB false] = _; rw [h, h2]; rfl)) (fun h2 => ?_)
  refine WR.iteN (decide (a.act = b.act)) rfl (fun h3 => WR.done (by show [dB false] = _; rw [h, h2, h3]; rfl)) (fun h3 => ?_)
  refine WR.ev (ev_eqIntS a.args b.args hl) rfl rfl rfl ?_
  refine WR.iteN (decide (a.args = b.args)) rfl (fun h4 => WR.done (by show [dB false] = _; rw [h, h2, h3, h4]; rfl)) (fun h4 => WR.done (by show [dB true] = _; rw [h, h2, h3, h4]; rfl))
structure Clk where
  up : Bool
  round : Int
  base : List Int
  done : List Don
  wants : List Cal
  got : List Got
  deriving DecidableEq
def Clk.cells (s : Clk) : List D := [dB s.up, dI s.round, .s (dL s.base), .s (dDs s.done), .s (dCs s.wants), .s (dGs s.got)]
end Go.Proofs.YtdibnlhlngodeaaGreatDoor
