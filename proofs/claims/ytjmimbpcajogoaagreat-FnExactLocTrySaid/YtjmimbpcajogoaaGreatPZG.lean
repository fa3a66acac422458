/- The program's SitNew and ClkNew answer as the reference's: over residual programs. -/
import Derived.Test.YtjmimbpcajogoaaGreatPZF
import Derived.Test.YtjmimbpcajogoaaGreatPK
import Derived.Test.YtjmimbpcajogoaaGreatPL
import Derived.Test.YtjmimbpcajogoaaGreatPN
namespace Go.Proofs.YtjmimbpcajogoaaGreat
open Go Go.Tm

/-! ### Plans -/

structure Pln where
  n : Int
  acts : List (List Line)
  gives : List Int
  start : List Int
  deriving DecidableEq
def Pln.cells (p : Pln) : List D := [dI p.n, .s (dActs p.acts), .s (dL p.gives), .s (dL p.start)]
def fitPln (p : Pln) : Prop := fitActs p.acts ∧ p.gives.length ≤ 2000000 ∧ p.start.length ≤ 2000000
def bigPln (p : Pln) : Prop := bigAs p.acts ∧ p.gives.length ≤ 9223372036854775807 ∧ p.start.length ≤ 9223372036854775807
def szPln (p : Pln) : Nat := szAs p.acts + p.gives.length + p.start.length
def wtPln (p : Pln) : Nat := wtAs p.acts + p.gives.length + p.start.length

theorem fitPln_of {p : Pln} (h : szPln p ≤ 1048576) : fitPln p := by
  unfold szPln at h
  exact ⟨fitActs_of (by omega), by omega, by omega⟩

/-- Whether a plan is ok. -/
def plnOk (p : Pln) : Bool := inB p.n 1 4 && (catOk p.acts && (allIn 3 1000 p.start && trtOk p.start p.gives))

/-! ### What was done -/

theorem ev_eqResResult (a b : Int) (c d : List Int) (hl : c.length ≤ 2000000) : Ev L f_laws_eqResResult [dI a, .s (dL c), dI b, .s (dL d)] [dB (decide (a = b) && decide (c = d))] := by
  refine Ev.eq (vs := [.i a, .l (dL c), .i b, .l (dL d)]) L_laws_eqResResult rfl ?_
  refine WR.iteN (decide (a = b)) rfl (fun h => WR.done (by show [dB false] = _; rw [h]; rfl)) (fun h => ?_)
  refine WR.ev (ev_eqIntS c d hl) rfl rfl rfl ?_
  refine WR.iteN (decide (c = d)) rfl (fun h2 => WR.done (by show [dB false] = _; rw [h, h2]; rfl)) (fun h2 => WR.done (by show [dB true] = _; rw [h, h2]; rfl))

/-! ### Sites -/

structure Sit where
  up : Bool
  frozen : Bool
  round : Int
  base : List Int
  added : List Int
  done : List Don
  deriving DecidableEq
def Sit.cells (s : Sit) : List D := [dB s.up, dB s.frozen, dI s.round, .s (dL s.base), .s (dL s.added), .s (dDs s.done)]
def fitSit (s : Sit) : Prop := s.base.length ≤ 2000000 ∧ s.added.length ≤ 2000000 ∧ s.done.length ≤ 2000000 ∧ ∀ d ∈ s.done, d.tells.length ≤ 2000000
def wtSit (s : Sit) : Nat := s.base.length + s.added.length + wts Don.w s.done
def mkSit (s : Sit) : Sit := ⟨s.up, s.frozen, s.round, cnt 1 s.base.length, cnt (1 + s.base.length) s.added.length, mkAll Don.w Don.mk' (1 + s.base.length + s.added.length) s.done⟩

/-- A new site. -/
def don0 : Don := ⟨0, 0, []⟩
def sitNew (p : Pln) : Sit := if plnOk p then ⟨true, false, 0, p.start, [0, 0, 0], List.replicate p.n.toNat don0⟩ else ⟨false, false, 0, [], [], []⟩

theorem plnOk_n {p : Pln} (h : plnOk p = true) : 1 ≤ p.n ∧ p.n ≤ 4 ∧ p.start.length = 3 ∧ trtOk p.start p.gives = true := by
  simp only [plnOk, Bool.and_eq_true, inB_iff, allIn_iff] at h
  obtain ⟨⟨h1, h2⟩, _, ⟨h3, _⟩, h4⟩ := h
  exact ⟨h1, h2, by omega, h4⟩

theorem fit_sitNew (p : Pln) (hp : fitPln p) : fitSit (sitNew p) := by
  unfold sitNew
  split
  · rename_i h
    obtain ⟨h1, h2, h3, _⟩ := plnOk_n h
    refine ⟨hp.2.2, by simp, by simp; omega, fun d hd => ?_⟩
    rw [(List.mem_replicate.1 hd).2]; simp [don0]
  · exact ⟨by simp, by simp, by simp, fun d hd => by simp at hd⟩

theorem wt_sitNew (p : Pln) (hp : fitPln p) : wtSit (sitNew p) ≤ 10000000000 := by
  unfold sitNew
  split
  · rename_i h
    obtain ⟨h1, h2, h3, _⟩ := plnOk_n h
    have e : ∀ n : Nat, wts Don.w (List.replicate n don0) = 2 * n := fun n => by
      induction n with
      | zero => rfl
      | succ n ih =>
        have h5 : wts Don.w (don0 :: List.replicate n don0) = 2 + wts Don.w (List.replicate n don0) := rfl
        rw [List.replicate_succ, h5, ih]; omega
    unfold wtSit
    simp only [e, h3, List.length_cons, List.length_nil]
    omega
  · simp [wtSit, wts]

theorem wtPln_le (p : Pln) : wtPln p ≤ 4 * szPln p := by
  have := wtAs_le p.acts
  unfold wtPln szPln; omega

abbrev tyPlan : Ty := .st [.i .i64, .sl (.sl tyLine), tyInts, tyInts]

theorem plan_of {ds : List D} (h : TySh tyPlan ds) : ∃ p : Pln, ds = p.cells ∧ bigPln p := by
  obtain ⟨_, _, rfl, ⟨n, rfl⟩, _, _, rfl, h1, _, _, rfl, h2, _, _, rfl, h3, rfl⟩ := h
  obtain ⟨as, rfl, ha⟩ := acts_of h1
  obtain ⟨g, rfl, hg⟩ := ints_of h2
  obtain ⟨s, rfl, hs⟩ := ints_of h3
  exact ⟨⟨n, as, g, s⟩, rfl, ha, hg, hs⟩

end Go.Proofs.YtjmimbpcajogoaaGreat
