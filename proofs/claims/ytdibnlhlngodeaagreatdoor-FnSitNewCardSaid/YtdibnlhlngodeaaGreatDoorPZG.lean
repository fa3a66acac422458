import Derived.Test.YtdibnlhlngodeaaGreatDoorPZF
import Derived.Test.YtdibnlhlngodeaaGreatDoorPK
import Derived.Test.YtdibnlhlngodeaaGreatDoorPL
import Derived.Test.YtdibnlhlngodeaaGreatDoorPN
set_option linter.unusedVariables false
set_option linter.unusedSimpArgs false
/- The program's SitNew and ClkNew answer as the reference's: over residual programs. -/
namespace Go.Proofs.YtdibnlhlngodeaaGreatDoor
open Go Go.Tm
structure Pln where
  n : Int
  acts : List (List Line)
  gives : List Int
  start : List Int
  deriving DecidableEq
def Pln.cells (p : Pln) : List D := [dI p.n, .s (dActs p.acts), .s (dL p.gives), .s (dL p.start)]
def fitPln (p : Pln) : Prop := fitActs p.acts ∧ p.gives.length ≤ 2000000 ∧ p.start.length ≤ 2000000
def plnOk (p : Pln) : Bool := inB p.n 1 4 && (catOk p.acts && (allIn 3 1000 p.start && trtOk p.start p.gives))
theorem ev_sPlnOk (p : Pln) (hp : fitPln p) : Ev L f_k1b p.cells [dB (plnOk p)] := by
  refine Ev.eq (vs := [.i p.n, .l (dActs p.acts), .l (dL p.gives), .l (dL p.start)]) L_k1b rfl ?_
  refine WR.ev (ev_l1In p.n 1 4) rfl rfl rfl ?_
  refine WR.iteB (inB p.n 1 4) rfl (fun h1 => ?_) (fun h1 => WR.done (by show [dB false] = _; simp [plnOk, h1]))
  refine WR.ev (ev_CatOk p.acts hp.1) rfl rfl rfl ?_
  refine WR.iteB (catOk p.acts) rfl (fun h2 => ?_) (fun h2 => WR.done (by show [dB false] = _; simp [plnOk, h2]))
  refine WR.ev (ev_l1All p.start 3 1000 hp.2.2 (by omega) (by omega)) rfl rfl rfl ?_
  refine WR.iteB (allIn 3 1000 p.start) rfl (fun h3 => ?_) (fun h3 => WR.done (by show [dB false] = _; simp [plnOk, h3]))
  refine WR.ev (ev_sTrtOk p.start p.gives hp.2.2 hp.2.1) rfl rfl rfl (WR.done ?_)
  show [dB (trtOk p.start p.gives)] = _
  simp [plnOk, h1, h2, h3]
theorem ev_iTreaty (p : Pln) (b : List Int) : Ev L f_ky (p.cells ++ [.s (dL b)]) [.s (dL b), .s (dL p.gives)] :=
  Ev.eq (vs := [.i p.n, .l (dActs p.acts), .l (dL p.gives), .l (dL p.start), .l (dL b)]) L_ky rfl (WR.done rfl)
theorem ev_iPlnOk (p : Pln) (hp : fitPln p) : Ev L f_k12 p.cells [dB (plnOk p)] := by
  refine Ev.eq (vs := [.i p.n, .l (dActs p.acts), .l (dL p.gives), .l (dL p.start)]) L_k12 rfl ?_
  refine WR.ev (ev_in p.n 1 4) rfl rfl rfl ?_
  refine WR.iteB (inB p.n 1 4) rfl (fun h1 => ?_) (fun h1 => WR.done (by show [dB false] = _; simp [plnOk, h1]))
  refine WR.ev (ev_iCatOk p.acts hp.1) rfl rfl rfl ?_
  refine WR.iteB (catOk p.acts) rfl (fun h2 => ?_) (fun h2 => WR.done (by show [dB false] = _; simp [plnOk, h2]))
  refine WR.ev (ev_within p.start 3 1000 hp.2.2 (by omega) (by omega)) rfl rfl rfl ?_
  refine WR.iteB (allIn 3 1000 p.start) rfl (fun h3 => ?_) (fun h3 => WR.done (by show [dB false] = _; simp [plnOk, h3]))
  refine WR.ev (ev_iTreaty p p.start) rfl rfl rfl ?_
  refine WR.ev (ev_TrtOk p.start p.gives hp.2.2 hp.2.1) rfl rfl rfl (WR.done ?_)
  show [dB (trtOk p.start p.gives)] = _
  simp [plnOk, h1, h2, h3]
structure Sit where
  up : Bool
  frozen : Bool
  round : Int
  base : List Int
  added : List Int
  done : List Don
  deriving DecidableEq
def Sit.cells (s : Sit) : List D := [dB s.up, dB s.frozen, dI s.round, .s (dL s.base), .s (dL s.added), .s (dDs s.done)]
def fitSit (s : Sit) : Prop := s.base.length ≤ 2000000 ∧ s.added.length ≤ 2000000 ∧ s.done.length ≤ 2000000 ∧ ∀ d ∈ s.done, d.tells.length ≤ 2000000
def don0 : Don := ⟨0, 0, []⟩
def sitNew (p : Pln) : Sit := if plnOk p then ⟨true, false, 0, p.start, [0, 0, 0], List.replicate p.n.toNat don0⟩ else ⟨false, false, 0, [], [], []⟩
theorem plnOk_n {p : Pln} (h : plnOk p = true) : 1 ≤ p.n ∧ p.n ≤ 4 ∧ p.start.length = 3 ∧ trtOk p.start p.gives = true := by
  simp only [plnOk, Bool.and_eq_true, inB_iff, allIn_iff] at h
  obtain ⟨⟨h1, h2⟩, _, ⟨h3, _⟩, h4⟩ := h
  exact ⟨h1, h2, by omega, h4⟩
theorem ev_l6New (p : Pln) (h0 : 0 ≤ p.n) (h1 : p.n ≤ 4) : Ev L f_k1c p.cells [.s (dDs (List.replicate p.n.toNat don0))] := by
  refine Ev.eq (vs := [.i p.n, .l (dActs p.acts), .l (dL p.gives), .l (dL p.start)]) L_k1c rfl ?_
  refine WR.forP p.n.toNat (fun i => [.l (dDs (List.replicate i don0)), .i i]) (fun _ => True) rfl rfl trivial fun i hi _ => ?_
  simp only [sCA, sNA]
  have hl : (dDs (List.replicate i don0)).length = i := by simp [dDs]
  refine WR.iteLt i p.n.toNat (by show decide ((i : Int) < p.n) = _; rw [show ((p.n.toNat : Nat) : Int) = p.n by omega]) (fun h => ?_) (fun h => WR.esc (WR.done ?_))
  · refine WR.chkApp (dDs (List.replicate i don0)) 4 (by omega) (by omega) rfl ?_
    refine WR.nextA (vs := [.l (dDs (List.replicate (i + 1) don0)), .i ((i + 1 : Nat) : Int)]) ?_ ⟨h, rfl, trivial⟩
    show [V.l (dDs (List.replicate i don0) ++ [Don.g don0]), V.i (IntKind.i64.wrap ((i : Int) + 1))] = _
    rw [wS h (by omega), List.replicate_succ']
    simp [dDs]
  · show [D.s (dDs (List.replicate i don0))] = _
    rw [show i = p.n.toNat by omega]
theorem ev_sSitNew (p : Pln) (hp : fitPln p) : Ev L f_k1d p.cells (sitNew p).cells := by
  refine Ev.eq (vs := [.i p.n, .l (dActs p.acts), .l (dL p.gives), .l (dL p.start)]) L_k1d rfl ?_
  refine WR.ev (ev_sPlnOk p hp) rfl rfl rfl ?_
  refine WR.iteN (plnOk p) rfl (fun h => WR.done ?_) (fun h => ?_)
  · show _ = (sitNew p).cells
    unfold sitNew; rw [if_neg (by simp [h])]; rfl
  obtain ⟨h1, h2, h3, _⟩ := plnOk_n h
  refine WR.chkN (dL p.start) 2000000 (by rw [dL_len]; exact hp.2.2) (by omega) rfl ?_
  refine WR.head (head_dL p.start) ?_
  refine WR.chkN (dL p.start) 2000000 (by rw [dL_len]; exact hp.2.2) (by omega) rfl ?_
  refine WR.ev (ev_l6New p (by omega) h2) rfl rfl rfl (WR.done ?_)
  show _ = (sitNew p).cells
  unfold sitNew; rw [if_pos h]; rfl
theorem ev_siteNew (p : Pln) (hp : fitPln p) (h1 : 0 ≤ p.n) (h2 : p.n ≤ 4) : Ev L f_k14 p.cells (Sit.cells ⟨true, false, 0, p.start, [0, 0, 0], List.replicate p.n.toNat don0⟩) := by
  refine Ev.eq (vs := [.i p.n, .l (dActs p.acts), .l (dL p.gives), .l (dL p.start)]) L_k14 rfl ?_
  refine WR.ev (ev_clone1 p.start hp.2.2) rfl rfl rfl ?_
  refine WR.chk (by show decide (0 ≤ p.n) = true; simpa using h1) ?_
  refine WR.chk (by show decide (p.n ≤ (1759218604441 : Int)) = true; simp only [decide_eq_true_eq]; omega) ?_
  refine WR.done ?_
  show [_, _, _, _, _, D.s (List.replicate p.n.toNat (Don.g don0))] = _
  unfold Sit.cells dDs
  rw [List.map_replicate]; rfl
theorem ev_iSitNew (p : Pln) (hp : fitPln p) : Ev L f_k15 p.cells (sitNew p).cells := by
  refine Ev.eq (vs := [.i p.n, .l (dActs p.acts), .l (dL p.gives), .l (dL p.start)]) L_k15 rfl ?_
  refine WR.ev (ev_iPlnOk p hp) rfl rfl rfl ?_
  refine WR.iteN (plnOk p) rfl (fun h => WR.done ?_) (fun h => ?_)
  · show _ = (sitNew p).cells
    unfold sitNew; rw [if_neg (by simp [h])]; rfl
  obtain ⟨h1, h2, h3, _⟩ := plnOk_n h
  refine WR.ev (ev_siteNew p hp (by omega) h2) rfl rfl rfl (WR.done ?_)
  show _ = (sitNew p).cells
  unfold sitNew; rw [if_pos h]; rfl
theorem fit_sitNew (p : Pln) (hp : fitPln p) : fitSit (sitNew p) := by
  unfold sitNew
  split
  · rename_i h
    obtain ⟨h1, h2, h3, _⟩ := plnOk_n h
    refine ⟨hp.2.2, by simp, by simp; omega, fun d hd => ?_⟩
    rw [(List.mem_replicate.1 hd).2]; simp [don0]
  · exact ⟨by simp, by simp, by simp, fun d hd => by simp at hd⟩
end Go.Proofs.YtdibnlhlngodeaaGreatDoor
