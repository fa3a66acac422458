/- The program's ClkNew answers as the reference's: over residual programs. -/
import Derived.Test.YtdibnlhlngodeaaGreatDoorPZG
namespace Go.Proofs.YtdibnlhlngodeaaGreatDoor
open Go Go.Tm

/-! ### What was told and asked -/

theorem ev_eqPlnCall (a b : Cal) (hl : a.args.length ≤ 2000000) : Ev L f_laws_eqPlnCall (a.cells ++ b.cells) [dB (decide (a = b))] := by
  refine Ev.eq (vs := [.i a.client, .i a.seq, .i a.act, .l (dL a.args), .i b.client, .i b.seq, .i b.act, .l (dL b.args)]) L_laws_eqPlnCall rfl ?_
  have e : decide (a = b) = (decide (a.client = b.client) && (decide (a.seq = b.seq) && (decide (a.act = b.act) && decide (a.args = b.args)))) := by
    obtain ⟨a1, a2, a3, a4⟩ := a
    obtain ⟨b1, b2, b3, b4⟩ := b
    simp only [Cal.mk.injEq]
    by_cases h1 : a1 = b1 <;> by_cases h2 : a2 = b2 <;> by_cases h3 : a3 = b3 <;> by_cases h4 : a4 = b4 <;> simp [h1, h2, h3, h4]
  rw [e]
  refine WR.iteN (decide (a.client = b.client)) rfl (fun h => WR.done (by show [dB false] = _; rw [h]; rfl)) (fun h => ?_)
  refine WR.iteN (decide (a.seq = b.seq)) rfl (fun h2 => WR.done (by show [dB false] = _; rw [h, h2]; rfl)) (fun h2 => ?_)
  refine WR.iteN (decide (a.act = b.act)) rfl (fun h3 => WR.done (by show [dB false] = _; rw [h, h2, h3]; rfl)) (fun h3 => ?_)
  refine WR.ev (ev_eqIntS a.args b.args hl) rfl rfl rfl ?_
  refine WR.iteN (decide (a.args = b.args)) rfl (fun h4 => WR.done (by show [dB false] = _; rw [h, h2, h3, h4]; rfl)) (fun h4 => WR.done (by show [dB true] = _; rw [h, h2, h3, h4]; rfl))

/-! ### The clerk -/

structure Clk where
  up : Bool
  round : Int
  base : List Int
  done : List Don
  wants : List Cal
  got : List Got
  deriving DecidableEq
def Clk.cells (s : Clk) : List D := [dB s.up, dI s.round, .s (dL s.base), .s (dDs s.done), .s (dCs s.wants), .s (dGs s.got)]
structure fitClk (s : Clk) : Prop where
  b : s.base.length ≤ 2000000
  d : s.done.length ≤ 2000000
  dt : ∀ d ∈ s.done, d.tells.length ≤ 2000000
  c : s.wants.length ≤ 2000000
  ct : ∀ d ∈ s.wants, d.args.length ≤ 2000000
  g : s.got.length ≤ 2000000
  gt : ∀ d ∈ s.got, d.added.length ≤ 2000000 ∧ d.seqs.length ≤ 2000000
def wtClk (s : Clk) : Nat := s.base.length + wts Don.w s.done + wts Cal.w s.wants + wts Got.w s.got
def mkClk (s : Clk) : Clk := ⟨s.up, s.round, cnt 1 s.base.length, mkAll Don.w Don.mk' (1 + s.base.length) s.done, mkAll Cal.w Cal.mk' (1 + s.base.length + wts Don.w s.done) s.wants, mkAll Got.w Got.mk' (1 + s.base.length + wts Don.w s.done + wts Cal.w s.wants) s.got⟩

def got0 : Got := ⟨false, [], []⟩
def clkNew (p : Pln) : Clk := if plnOk p then ⟨true, 0, p.start, List.replicate p.n.toNat don0, [], List.replicate p.gives.length got0⟩ else ⟨false, 0, [], [], [], []⟩

theorem fit_clkNew (p : Pln) (hp : fitPln p) : fitClk (clkNew p) ∧ (clkNew p).wants = [] := by
  unfold clkNew
  split
  · rename_i h
    obtain ⟨h1, h2, h3, _⟩ := plnOk_n h
    refine ⟨⟨hp.2.2, by simp; omega, fun d hd => ?_, by simp, fun d hd => by simp at hd, by simp; exact hp.2.1, fun d hd => ?_⟩, rfl⟩
    · rw [(List.mem_replicate.1 hd).2]; simp [don0]
    · rw [(List.mem_replicate.1 hd).2]; simp [got0]
  · exact ⟨⟨by simp, by simp, fun d hd => by simp at hd, by simp, fun d hd => by simp at hd, by simp, fun d hd => by simp at hd⟩, rfl⟩

theorem wts_replicate {α : Type} (w : α → Nat) (x : α) (n : Nat) : wts w (List.replicate n x) = w x * n := by
  induction n with
  | zero => rfl
  | succ n ih =>
    have h5 : wts w (x :: List.replicate n x) = w x + wts w (List.replicate n x) := rfl
    rw [List.replicate_succ, h5, ih, Nat.mul_succ]; omega

theorem wt_clkNew (p : Pln) (hp : fitPln p) : wtClk (clkNew p) ≤ 10000000000 := by
  unfold clkNew
  split
  · rename_i h
    obtain ⟨h1, h2, h3, _⟩ := plnOk_n h
    have hg := hp.2.1
    unfold wtClk
    have e1 : don0.w = 2 := rfl
    have e2 : got0.w = 1 := rfl
    have e3 : wts Cal.w [] = 0 := rfl
    simp only [wts_replicate, e1, e2, e3, h3]
    omega
  · simp [wtClk, wts]

end Go.Proofs.YtdibnlhlngodeaaGreatDoor
