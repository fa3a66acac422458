/- The program's ClkNew answers as the reference's: over residual programs. -/
import Derived.Test.YtdibnlhlngodeaaGreatDoorPZG
set_option linter.unusedVariables false
set_option linter.unusedSimpArgs false
namespace Go.Proofs.YtdibnlhlngodeaaGreatDoor
open Go Go.Tm

/-! ### What was told and asked -/

/-! ### The clerk -/

structure Clk where
  up : Bool
  round : Int
  base : List Int
  done : List Don
  wants : List Cal
  got : List Got
  deriving DecidableEq
def Clk.cells (s : Clk) : List D := [dB s.up, dI s.round, .s (dL s.base), .s (dDs s.done), .s (dCs s.wants), .s (dGs s.got)]
structure fitClk (s : Clk) : Prop where
  b : s.base.length ≤ 2000000
  d : s.done.length ≤ 2000000
  dt : ∀ d ∈ s.done, d.tells.length ≤ 2000000
  c : s.wants.length ≤ 2000000
  ct : ∀ d ∈ s.wants, d.args.length ≤ 2000000
  g : s.got.length ≤ 2000000
  gt : ∀ d ∈ s.got, d.added.length ≤ 2000000 ∧ d.seqs.length ≤ 2000000
def wtClk (s : Clk) : Nat := s.base.length + wts Don.w s.done + wts Cal.w s.wants + wts Got.w s.got
def mkClk (s : Clk) : Clk := ⟨s.up, s.round, cnt 1 s.base.length, mkAll Don.w Don.mk' (1 + s.base.length) s.done, mkAll Cal.w Cal.mk' (1 + s.base.length + wts Don.w s.done) s.wants, mkAll Got.w Got.mk' (1 + s.base.length + wts Don.w s.done + wts Cal.w s.wants) s.got⟩

def got0 : Got := ⟨false, [], []⟩
def clkNew (p : Pln) : Clk := if plnOk p then ⟨true, 0, p.start, List.replicate p.n.toNat don0, [], List.replicate p.gives.length got0⟩ else ⟨false, 0, [], [], [], []⟩

theorem fit_clkNew (p : Pln) (hp : fitPln p) : fitClk (clkNew p) ∧ (clkNew p).wants = [] := by
  unfold clkNew
  split
  · rename_i h
    obtain ⟨h1, h2, h3, _⟩ := plnOk_n h
    refine ⟨⟨hp.2.2, by simp; omega, fun d hd => ?_, by simp, fun d hd => by simp at hd, by simp; exact hp.2.1, fun d hd => ?_⟩, rfl⟩
    · rw [(List.mem_replicate.1 hd).2]; simp [don0]
    · rw [(List.mem_replicate.1 hd).2]; simp [got0]
  · exact ⟨⟨by simp, by simp, fun d hd => by simp at hd, by simp, fun d hd => by simp at hd, by simp, fun d hd => by simp at hd⟩, rfl⟩

theorem wts_replicate {α : Type} (w : α → Nat) (x : α) (n : Nat) : wts w (List.replicate n x) = w x * n := by
  induction n with
  | zero => rfl
  | succ n ih =>
    have h5 : wts w (x :: List.replicate n x) = w x + wts w (List.replicate n x) := rfl
    rw [List.replicate_succ, h5, ih, Nat.mul_succ]; omega

theorem wt_clkNew (p : Pln) (hp : fitPln p) : wtClk (clkNew p) ≤ 10000000000 := by
  unfold clkNew
  split
  · rename_i h
    obtain ⟨h1, h2, h3, _⟩ := plnOk_n h
    have hg := hp.2.1
    unfold wtClk
    have e1 : don0.w = 2 := rfl
    have e2 : got0.w = 1 := rfl
    have e3 : wts Cal.w [] = 0 := rfl
    simp only [wts_replicate, e1, e2, e3, h3]
    omega
  · simp [wtClk, wts]

end Go.Proofs.YtdibnlhlngodeaaGreatDoor
