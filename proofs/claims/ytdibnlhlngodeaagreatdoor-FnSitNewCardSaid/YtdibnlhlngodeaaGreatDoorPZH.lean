import Derived.Test.YtdibnlhlngodeaaGreatDoorPZG
set_option linter.unusedVariables false
set_option linter.unusedSimpArgs false
/- The program's ClkNew answers as the reference's: over residual programs. -/
namespace Go.Proofs.YtdibnlhlngodeaaGreatDoor
open Go Go.Tm
structure Clk where
  up : Bool
  round : Int
  base : List Int
  done : List Don
  wants : List Cal
  got : List Got
  deriving DecidableEq
def Clk.cells (s : Clk) : List D := [dB s.up, dI s.round, .s (dL s.base), .s (dDs s.done), .s (dCs s.wants), .s (dGs s.got)]
structure fitClk (s : Clk) : Prop where
  b : s.base.length ≤ 2000000
  d : s.done.length ≤ 2000000
  dt : ∀ d ∈ s.done, d.tells.length ≤ 2000000
  c : s.wants.length ≤ 2000000
  ct : ∀ d ∈ s.wants, d.args.length ≤ 2000000
  g : s.got.length ≤ 2000000
  gt : ∀ d ∈ s.got, d.added.length ≤ 2000000 ∧ d.seqs.length ≤ 2000000
def got0 : Got := ⟨false, [], []⟩
def clkNew (p : Pln) : Clk := if plnOk p then ⟨true, 0, p.start, List.replicate p.n.toNat don0, [], List.replicate p.gives.length got0⟩ else ⟨false, 0, [], [], [], []⟩
theorem ev_l9None (p : Pln) (hg : p.gives.length ≤ 2000000) : Ev L f_k1i p.cells [.s (dGs (List.replicate p.gives.length got0))] := by
  refine Ev.eq (vs := [.i p.n, .l (dActs p.acts), .l (dL p.gives), .l (dL p.start)]) L_k1i rfl ?_
  refine WR.forP p.gives.length (fun i => [.l (dGs (List.replicate i got0)), .i i]) (fun _ => True) rfl rfl trivial fun i hi _ => ?_
  simp only [sCA, sNA]
  have hl : (dGs (List.replicate i got0)).length = i := by simp [dGs]
  refine WR.iteLen i (dL_len p.gives) rfl (fun h => ?_) (fun h => WR.esc (WR.done ?_))
  · refine WR.chkApp (dGs (List.replicate i got0)) 2000000 (by omega) (by omega) rfl ?_
    refine WR.nextA (vs := [.l (dGs (List.replicate (i + 1) got0)), .i ((i + 1 : Nat) : Int)]) ?_ ⟨h, rfl, trivial⟩
    show [V.l (dGs (List.replicate i got0) ++ [Got.g got0]), V.i (IntKind.i64.wrap ((i : Int) + 1))] = _
    rw [wS h (by omega), List.replicate_succ']
    simp [dGs]
  · show [D.s (dGs (List.replicate i got0))] = _
    rw [show i = p.gives.length by omega]
theorem ev_sClkNew (p : Pln) (hp : fitPln p) : Ev L f_k1j p.cells (clkNew p).cells := by
  refine Ev.eq (vs := [.i p.n, .l (dActs p.acts), .l (dL p.gives), .l (dL p.start)]) L_k1j rfl ?_
  refine WR.ev (ev_sPlnOk p hp) rfl rfl rfl ?_
  refine WR.iteN (plnOk p) rfl (fun h => WR.done ?_) (fun h => ?_)
  · show _ = (clkNew p).cells
    unfold clkNew; rw [if_neg (by simp [h])]; rfl
  obtain ⟨h1, h2, h3, _⟩ := plnOk_n h
  refine WR.chkN (dL p.start) 2000000 (by rw [dL_len]; exact hp.2.2) (by omega) rfl ?_
  refine WR.head (head_dL p.start) ?_
  refine WR.chkN (dL p.start) 2000000 (by rw [dL_len]; exact hp.2.2) (by omega) rfl ?_
  refine WR.ev (ev_l6New p (by omega) h2) rfl rfl rfl ?_
  refine WR.ev (ev_l9None p hp.2.1) rfl rfl rfl (WR.done ?_)
  show _ = (clkNew p).cells
  unfold clkNew; rw [if_pos h]; rfl
theorem ev_clerkNew (p : Pln) (hp : fitPln p) (h1 : 0 ≤ p.n) (h2 : p.n ≤ 4) : Ev L f_k16 p.cells (Clk.cells ⟨true, 0, p.start, List.replicate p.n.toNat don0, [], List.replicate p.gives.length got0⟩) := by
  refine Ev.eq (vs := [.i p.n, .l (dActs p.acts), .l (dL p.gives), .l (dL p.start)]) L_k16 rfl ?_
  refine WR.ev (ev_clone1 p.start hp.2.2) rfl rfl rfl ?_
  have hg := hp.2.1
  refine WR.chk (by show decide (0 ≤ p.n) = true; simpa using h1) ?_
  refine WR.chk (by show decide (p.n ≤ (1759218604441 : Int)) = true; simp only [decide_eq_true_eq]; omega) ?_
  refine WR.chk (by show decide ((0 : Int) ≤ ((dL p.gives).length : Int)) = true; simp) ?_
  refine WR.chkN (dL p.gives) 2000000 (by rw [dL_len]; exact hg) (by omega) rfl ?_
  refine WR.done ?_
  show [_, _, _, D.s (List.replicate p.n.toNat (Don.g don0)), _, D.s (List.replicate ((dL p.gives).length : Int).toNat (Got.g got0))] = _
  unfold Clk.cells dDs dGs
  rw [List.map_replicate, List.map_replicate, dL_len, Int.toNat_natCast]; rfl
theorem ev_iClkNew (p : Pln) (hp : fitPln p) : Ev L f_k17 p.cells (clkNew p).cells := by
  refine Ev.eq (vs := [.i p.n, .l (dActs p.acts), .l (dL p.gives), .l (dL p.start)]) L_k17 rfl ?_
  refine WR.ev (ev_iPlnOk p hp) rfl rfl rfl ?_
  refine WR.iteN (plnOk p) rfl (fun h => WR.done ?_) (fun h => ?_)
  · show _ = (clkNew p).cells
    unfold clkNew; rw [if_neg (by simp [h])]; rfl
  obtain ⟨h1, h2, h3, _⟩ := plnOk_n h
  refine WR.ev (ev_clerkNew p hp (by omega) h2) rfl rfl rfl (WR.done ?_)
  show _ = (clkNew p).cells
  unfold clkNew; rw [if_pos h]; rfl
theorem fit_clkNew (p : Pln) (hp : fitPln p) : fitClk (clkNew p) ∧ (clkNew p).wants = [] := by
  unfold clkNew
  split
  · rename_i h
    obtain ⟨h1, h2, h3, _⟩ := plnOk_n h
    refine ⟨⟨hp.2.2, by simp; omega, fun d hd => ?_, by simp, fun d hd => by simp at hd, by simp; exact hp.2.1, fun d hd => ?_⟩, rfl⟩
    · rw [(List.mem_replicate.1 hd).2]; simp [don0]
    · rw [(List.mem_replicate.1 hd).2]; simp [got0]
  · exact ⟨⟨by simp, by simp, fun d hd => by simp at hd, by simp, fun d hd => by simp at hd, by simp, fun d hd => by simp at hd⟩, rfl⟩
end Go.Proofs.YtdibnlhlngodeaaGreatDoor
