import Derived.Test.YtdibnlhlngodeaaGreatDoorPZG
set_option linter.unusedVariables false
set_option linter.unusedSimpArgs false
/- The program's ClkNew answers as the reference's: over residual programs. -/
namespace Go.Proofs.YtdibnlhlngodeaaGreatDoor
open Go Go.Tm
theorem ev_eqClkGot (a b : Got) (hl : a.added.length ≤ 2000000) (hl2 : a.seqs.length ≤ 2000000) : Ev L f_k4c (a.cells ++ b.cells) [dB (decide (a = b))] := by
  refine Ev.eq (vs := [.b a.has, .l (dL a.added), .l (dL a.seqs), .b b.has, .l (dL b.added), .l (dL b.seqs)]) L_k4c rfl ?_
  have e : decide (a = b) = (decide (a.has = b.has) && (decide (a.added = b.added) && decide (a.seqs = b.seqs))) := by
    obtain ⟨a1, a2, a3⟩ := a
    obtain ⟨b1, b2, b3⟩ := b
    simp only [Got.mk.injEq]
    by_cases h1 : a1 = b1 <;> by_cases h2 : a2 = b2 <;> by_cases h3 : a3 = b3 <;> simp [h1, h2, h3]
  rw [e]
  refine WR.iteN (decide (a.has = b.has)) (by show (!(a.has == b.has)) = _; cases a.has <;> cases b.has <;> rfl) (fun h => WR.done (by show [dB false] = _; rw [h]; rfl)) (fun h => ?_)
  refine WR.ev (ev_eqIntS a.added b.added hl) rfl rfl rfl ?_
  refine WR.iteN (decide (a.added = b.added)) rfl (fun h2 => WR.done (by show [dB false] = _; rw [h, h2]; rfl)) (fun h2 => ?_)
  refine WR.ev (ev_eqIntS a.seqs b.seqs hl2) rfl rfl rfl ?_
  refine WR.iteN (decide (a.seqs = b.seqs)) rfl (fun h3 => WR.done (by show [dB false] = _; rw [h, h2, h3]; rfl)) (fun h3 => WR.done (by show [dB true] = _; rw [h, h2, h3]; rfl))
theorem ev_eqClkGotS (a b : List Got) (hl : a.length ≤ 2000000) (ht : ∀ d ∈ a, d.added.length ≤ 2000000 ∧ d.seqs.length ≤ 2000000) : Ev L f_k4d [.s (dGs a), .s (dGs b)] [dB (decide (a = b))] :=
  ev_sameC (g := f_k4c) (sh := .g [.b, .s, .s]) (as := [(.vb (.v 3)), (.s (.v 4)), (.s (.v 5)), (.vb (.v 6)), (.s (.v 7)), (.s (.v 8))]) (k1 := 6) (k2 := 9)
    Got.g (fun x => [.b x.has, .l (dL x.added), .l (dL x.seqs)]) Got.cells a b
    L_k4d rfl (fun _ => rfl) (fun _ => rfl) (fun _ => rfl) (fun _ _ _ _ _ => rfl) (fun x hx y => ev_eqClkGot x y (ht x hx).1 (ht x hx).2) hl
theorem ev_eqPlnCall (a b : Cal) (hl : a.args.length ≤ 2000000) : Ev L f_k4a (a.cells ++ b.cells) [dB (decide (a = b))] := by
  refine Ev.eq (vs := [.i a.client, .i a.seq, .i a.act, .l (dL a.args), .i b.client, .i b.seq, .i b.act, .l (dL b.args)]) L_k4a rfl ?_
  have e : decide (a = b) = (decide (a.client = b.client) && (decide (a.seq = b.seq) && (decide (a.act = b.act) && decide (a.args = b.args)))) := by
    obtain ⟨a1, a2, a3, a4⟩ := a
    obtain ⟨b1, b2, b3, b4⟩ := b
    simp only [Cal.mk.injEq]
    by_cases h1 : a1 = b1 <;> by_cases h2 : a2 = b2 <;> by_cases h3 : a3 = b3 <;> by_cases h4 : a4 = b4 <;> simp [h1, h2, h3, h4]
  rw [e]
  refine WR.iteN (decide (a.client = b.client)) rfl (fun h => WR.done (by show [dB false] = _; rw [h]; rfl)) (fun h => ?_)
  refine WR.iteN (decide (a.seq = b.seq)) rfl (fun h2 => WR.done (by show [dB false] = _; rw [h, h2]; rfl)) (fun h2 => ?_)
  refine WR.iteN (decide (a.act = b.act)) rfl (fun h3 => WR.done (by show [dB false] = _; rw [h, h2, h3]; rfl)) (fun h3 => ?_)
  refine WR.ev (ev_eqIntS a.args b.args hl) rfl rfl rfl ?_
  refine WR.iteN (decide (a.args = b.args)) rfl (fun h4 => WR.done (by show [dB false] = _; rw [h, h2, h3, h4]; rfl)) (fun h4 => WR.done (by show [dB true] = _; rw [h, h2, h3, h4]; rfl))
theorem ev_eqPlnCallS (a b : List Cal) (hl : a.length ≤ 2000000) (ht : ∀ d ∈ a, d.args.length ≤ 2000000) : Ev L f_k4b [.s (dCs a), .s (dCs b)] [dB (decide (a = b))] :=
  ev_sameC (g := f_k4a) (sh := .g [.i .i64, .i .i64, .i .i64, .s]) (as := [(.vi .i64 (.v 3)), (.vi .i64 (.v 4)), (.vi .i64 (.v 5)), (.s (.v 6)), (.vi .i64 (.v 7)), (.vi .i64 (.v 8)), (.vi .i64 (.v 9)), (.s (.v 10))]) (k1 := 7) (k2 := 11)
    Cal.g (fun x => [.i x.client, .i x.seq, .i x.act, .l (dL x.args)]) Cal.cells a b
    L_k4b rfl (fun _ => rfl) (fun _ => rfl) (fun _ => rfl) (fun _ _ _ _ _ => rfl) (fun x hx y => ev_eqPlnCall x y (ht x hx)) hl
structure Clk where
  up : Bool
  round : Int
  base : List Int
  done : List Don
  wants : List Cal
  got : List Got
  deriving DecidableEq
def Clk.cells (s : Clk) : List D := [dB s.up, dI s.round, .s (dL s.base), .s (dDs s.done), .s (dCs s.wants), .s (dGs s.got)]
structure fitClk (s : Clk) : Prop where
  b : s.base.length ≤ 2000000
  d : s.done.length ≤ 2000000
  dt : ∀ d ∈ s.done, d.tells.length ≤ 2000000
  c : s.wants.length ≤ 2000000
  ct : ∀ d ∈ s.wants, d.args.length ≤ 2000000
  g : s.got.length ≤ 2000000
  gt : ∀ d ∈ s.got, d.added.length ≤ 2000000 ∧ d.seqs.length ≤ 2000000
theorem ev_eqClkClerk (s : Clk) (hs : fitClk s) : Ev L f_k4e (s.cells ++ s.cells) [dB true] := by
  refine Ev.eq (vs := [.b s.up, .i s.round, .l (dL s.base), .l (dDs s.done), .l (dCs s.wants), .l (dGs s.got), .b s.up, .i s.round, .l (dL s.base), .l (dDs s.done), .l (dCs s.wants), .l (dGs s.got)]) L_k4e rfl ?_
  have h1 := ev_eqIntS s.base s.base hs.b
  have h2 := ev_eqPlnDoneS s.done s.done hs.d hs.dt
  have h3 := ev_eqPlnCallS s.wants s.wants hs.c hs.ct
  have h4 := ev_eqClkGotS s.got s.got hs.g hs.gt
  rw [decide_eq_true rfl] at h1 h2 h3 h4
  refine WR.iteF (by show (!(s.up == s.up)) = false; simp) ?_
  refine WR.iteF (by show (!decide (s.round = s.round)) = false; simp) ?_
  refine WR.ev h1 rfl rfl rfl (WR.iteF rfl ?_)
  refine WR.ev h2 rfl rfl rfl (WR.iteF rfl ?_)
  refine WR.ev h3 rfl rfl rfl (WR.iteF rfl ?_)
  exact WR.ev h4 rfl rfl rfl (WR.iteF rfl (WR.done rfl))
def got0 : Got := ⟨false, [], []⟩
end Go.Proofs.YtdibnlhlngodeaaGreatDoor
