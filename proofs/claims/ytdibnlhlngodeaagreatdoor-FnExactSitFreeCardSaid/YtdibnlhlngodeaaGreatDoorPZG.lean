import Derived.Test.YtdibnlhlngodeaaGreatDoorPZF
import Derived.Test.YtdibnlhlngodeaaGreatDoorPK
import Derived.Test.YtdibnlhlngodeaaGreatDoorPL
import Derived.Test.YtdibnlhlngodeaaGreatDoorPN
set_option linter.unusedVariables false
set_option linter.unusedSimpArgs false
/- The program's SitNew and ClkNew answer as the reference's: over residual programs. -/
namespace Go.Proofs.YtdibnlhlngodeaaGreatDoor
open Go Go.Tm
structure Pln where
  n : Int
  acts : List (List Line)
  gives : List Int
  start : List Int
  deriving DecidableEq
def Pln.cells (p : Pln) : List D := [dI p.n, .s (dActs p.acts), .s (dL p.gives), .s (dL p.start)]
def fitPln (p : Pln) : Prop := fitActs p.acts ∧ p.gives.length ≤ 2000000 ∧ p.start.length ≤ 2000000
def bigPln (p : Pln) : Prop := bigAs p.acts ∧ p.gives.length ≤ 9223372036854775807 ∧ p.start.length ≤ 9223372036854775807
def szPln (p : Pln) : Nat := szAs p.acts + p.gives.length + p.start.length
theorem fitPln_of {p : Pln} (h : szPln p ≤ 1048576) : fitPln p := by
  unfold szPln at h
  exact ⟨fitActs_of (by omega), by omega, by omega⟩
theorem ev_toPlnPlan (p : Pln) (hp : fitPln p) : Ev L f_kg p.cells p.cells := by
  refine Ev.eq (vs := [.i p.n, .l (dActs p.acts), .l (dL p.gives), .l (dL p.start)]) L_kg rfl ?_
  refine WR.ev (ev_toActLineSS p.acts hp.1) rfl rfl rfl ?_
  refine WR.ev (ev_toIntS p.gives hp.2.1) rfl rfl rfl ?_
  refine WR.ev (ev_toIntS p.start hp.2.2) rfl rfl rfl ?_
  exact WR.done rfl
theorem ev_eqPlnPlan (p : Pln) (hp : fitPln p) : Ev L f_k4k (p.cells ++ p.cells) [dB true] := by
  refine Ev.eq (vs := [.i p.n, .l (dActs p.acts), .l (dL p.gives), .l (dL p.start), .i p.n, .l (dActs p.acts), .l (dL p.gives), .l (dL p.start)]) L_k4k rfl ?_
  have h1 := ev_eqActLineSS p.acts p.acts hp.1
  have h2 := ev_eqIntS p.gives p.gives hp.2.1
  have h3 := ev_eqIntS p.start p.start hp.2.2
  rw [decide_eq_true rfl] at h1 h2 h3
  refine WR.iteF (by show (!decide (p.n = p.n)) = false; simp) ?_
  refine WR.ev h1 rfl rfl rfl (WR.iteF rfl ?_)
  refine WR.ev h2 rfl rfl rfl (WR.iteF rfl ?_)
  exact WR.ev h3 rfl rfl rfl (WR.iteF rfl (WR.done rfl))
theorem ev_szPlnPlan (p : Pln) (left : Int) (hp : bigPln p) (h0 : 0 ≤ left) (h1 : left ≤ 1048576) : Ev L f_k5 (p.cells ++ [dI left]) [dI (dec left (szPln p))] := by
  refine Ev.eq (vs := [.i p.n, .l (dActs p.acts), .l (dL p.gives), .l (dL p.start), .i left]) L_k5 rfl ?_
  refine WR.ev (ev_szActLineSS p.acts left hp.1 h0 h1) rfl rfl rfl ?_
  have hr := dec_room (n := szAs p.acts) h0 h1
  refine WR.iteP (dec left (szAs p.acts) < 0) rfl (fun h => WR.done ?_) (fun h => ?_)
  · show [dI (-1)] = _
    rw [szPln, Nat.add_assoc, dec_lt h h0]
  refine WR.ev (ev_szIntS p.gives (dec left (szAs p.acts)) hp.2.1 (by omega) (by omega)) rfl rfl rfl ?_
  have hr2 := dec_room (n := szAs p.acts + p.gives.length) h0 h1
  rw [dec_dec h]
  refine WR.iteP (dec left (szAs p.acts + p.gives.length) < 0) rfl (fun h => WR.done ?_) (fun h => ?_)
  · show [dI (-1)] = _
    rw [szPln, dec_lt h h0]
  refine WR.ev (ev_szIntS p.start (dec left (szAs p.acts + p.gives.length)) hp.2.2 (by omega) (by omega)) rfl rfl rfl ?_
  rw [dec_dec h]
  have hr3 := dec_room (n := szAs p.acts + p.gives.length + p.start.length) h0 h1
  refine WR.iteP (dec left (szAs p.acts + p.gives.length + p.start.length) < 0) rfl (fun h => WR.done ?_) (fun h => WR.done rfl)
  show [dI (-1)] = _
  rw [szPln, show dec left (szAs p.acts + p.gives.length + p.start.length) = -1 by omega]
def plnOk (p : Pln) : Bool := inB p.n 1 4 && (catOk p.acts && (allIn 3 1000 p.start && trtOk p.start p.gives))
theorem ev_sPlnOk (p : Pln) (hp : fitPln p) : Ev L f_ku p.cells [dB (plnOk p)] := by
  refine Ev.eq (vs := [.i p.n, .l (dActs p.acts), .l (dL p.gives), .l (dL p.start)]) L_ku rfl ?_
  refine WR.ev (ev_l1In p.n 1 4) rfl rfl rfl ?_
  refine WR.iteB (inB p.n 1 4) rfl (fun h1 => ?_) (fun h1 => WR.done (by show [dB false] = _; simp [plnOk, h1]))
  refine WR.ev (ev_CatOk p.acts hp.1) rfl rfl rfl ?_
  refine WR.iteB (catOk p.acts) rfl (fun h2 => ?_) (fun h2 => WR.done (by show [dB false] = _; simp [plnOk, h2]))
  refine WR.ev (ev_l1All p.start 3 1000 hp.2.2 (by omega) (by omega)) rfl rfl rfl ?_
  refine WR.iteB (allIn 3 1000 p.start) rfl (fun h3 => ?_) (fun h3 => WR.done (by show [dB false] = _; simp [plnOk, h3]))
  refine WR.ev (ev_sTrtOk p.start p.gives hp.2.2 hp.2.1) rfl rfl rfl (WR.done ?_)
  show [dB (trtOk p.start p.gives)] = _
  simp [plnOk, h1, h2, h3]
theorem ev_iTreaty (p : Pln) (b : List Int) : Ev L f_k2d (p.cells ++ [.s (dL b)]) [.s (dL b), .s (dL p.gives)] :=
  Ev.eq (vs := [.i p.n, .l (dActs p.acts), .l (dL p.gives), .l (dL p.start), .l (dL b)]) L_k2d rfl (WR.done rfl)
theorem ev_iPlnOk (p : Pln) (hp : fitPln p) : Ev L f_k2h p.cells [dB (plnOk p)] := by
  refine Ev.eq (vs := [.i p.n, .l (dActs p.acts), .l (dL p.gives), .l (dL p.start)]) L_k2h rfl ?_
  refine WR.ev (ev_in p.n 1 4) rfl rfl rfl ?_
  refine WR.iteB (inB p.n 1 4) rfl (fun h1 => ?_) (fun h1 => WR.done (by show [dB false] = _; simp [plnOk, h1]))
  refine WR.ev (ev_iCatOk p.acts hp.1) rfl rfl rfl ?_
  refine WR.iteB (catOk p.acts) rfl (fun h2 => ?_) (fun h2 => WR.done (by show [dB false] = _; simp [plnOk, h2]))
  refine WR.ev (ev_within p.start 3 1000 hp.2.2 (by omega) (by omega)) rfl rfl rfl ?_
  refine WR.iteB (allIn 3 1000 p.start) rfl (fun h3 => ?_) (fun h3 => WR.done (by show [dB false] = _; simp [plnOk, h3]))
  refine WR.ev (ev_iTreaty p p.start) rfl rfl rfl ?_
  refine WR.ev (ev_TrtOk p.start p.gives hp.2.2 hp.2.1) rfl rfl rfl (WR.done ?_)
  show [dB (trtOk p.start p.gives)] = _
  simp [plnOk, h1, h2, h3]
theorem ev_eqResResult (a b : Int) (c d : List Int) (hl : c.length ≤ 2000000) : Ev L f_k4l [dI a, .s (dL c), dI b, .s (dL d)] [dB (decide (a = b) && decide (c = d))] := by
  refine Ev.eq (vs := [.i a, .l (dL c), .i b, .l (dL d)]) L_k4l rfl ?_
  refine WR.iteN (decide (a = b)) rfl (fun h => WR.done (by show [dB false] = _; rw [h]; rfl)) (fun h => ?_)
  refine WR.ev (ev_eqIntS c d hl) rfl rfl rfl ?_
  refine WR.iteN (decide (c = d)) rfl (fun h2 => WR.done (by show [dB false] = _; rw [h, h2]; rfl)) (fun h2 => WR.done (by show [dB true] = _; rw [h, h2]; rfl))
theorem ev_eqPlnDone (a b : Don) (hl : a.tells.length ≤ 2000000) : Ev L f_k4m (a.cells ++ b.cells) [dB (decide (a = b))] := by
  refine Ev.eq (vs := [.i a.seq, .i a.code, .l (dL a.tells), .i b.seq, .i b.code, .l (dL b.tells)]) L_k4m rfl ?_
  have e : decide (a = b) = (decide (a.seq = b.seq) && (decide (a.code = b.code) && decide (a.tells = b.tells))) := by
    obtain ⟨a1, a2, a3⟩ := a
    obtain ⟨b1, b2, b3⟩ := b
    simp only [Don.mk.injEq]
    by_cases h1 : a1 = b1 <;> by_cases h2 : a2 = b2 <;> by_cases h3 : a3 = b3 <;> simp [h1, h2, h3]
  rw [e]
  refine WR.iteN (decide (a.seq = b.seq)) rfl (fun h => WR.done (by show [dB false] = _; rw [h]; rfl)) (fun h => ?_)
  refine WR.ev (ev_eqResResult a.code b.code a.tells b.tells hl) rfl rfl rfl ?_
  refine WR.iteN (decide (a.code = b.code) && decide (a.tells = b.tells)) rfl (fun h2 => WR.done (by show [dB false] = _; rw [h, h2]; rfl)) (fun h2 => WR.done (by show [dB true] = _; rw [h, h2]; rfl))
theorem ev_eqPlnDoneS (a b : List Don) (hl : a.length ≤ 2000000) (ht : ∀ d ∈ a, d.tells.length ≤ 2000000) : Ev L f_k4n [.s (dDs a), .s (dDs b)] [dB (decide (a = b))] :=
  ev_sameC (g := f_k4m) (sh := .g [.i .i64, .i .i64, .s]) (as := [(.vi .i64 (.v 3)), (.vi .i64 (.v 4)), (.s (.v 5)), (.vi .i64 (.v 6)), (.vi .i64 (.v 7)), (.s (.v 8))]) (k1 := 6) (k2 := 9)
    Don.g (fun x => [.i x.seq, .i x.code, .l (dL x.tells)]) Don.cells a b
    L_k4n rfl (fun _ => rfl) (fun _ => rfl) (fun _ => rfl) (fun _ _ _ _ _ => rfl) (fun x hx y => ev_eqPlnDone x y (ht x hx)) hl
structure Sit where
  up : Bool
  frozen : Bool
  round : Int
  base : List Int
  added : List Int
  done : List Don
  deriving DecidableEq
def Sit.cells (s : Sit) : List D := [dB s.up, dB s.frozen, dI s.round, .s (dL s.base), .s (dL s.added), .s (dDs s.done)]
def fitSit (s : Sit) : Prop := s.base.length ≤ 2000000 ∧ s.added.length ≤ 2000000 ∧ s.done.length ≤ 2000000 ∧ ∀ d ∈ s.done, d.tells.length ≤ 2000000
theorem ev_eqSitSite (s : Sit) (hs : fitSit s) : Ev L f_k4o (s.cells ++ s.cells) [dB true] := by
  refine Ev.eq (vs := [.b s.up, .b s.frozen, .i s.round, .l (dL s.base), .l (dL s.added), .l (dDs s.done), .b s.up, .b s.frozen, .i s.round, .l (dL s.base), .l (dL s.added), .l (dDs s.done)]) L_k4o rfl ?_
  have h1 := ev_eqIntS s.base s.base hs.1
  have h2 := ev_eqIntS s.added s.added hs.2.1
  have h3 := ev_eqPlnDoneS s.done s.done hs.2.2.1 hs.2.2.2
  rw [decide_eq_true rfl] at h1 h2 h3
  refine WR.iteF (by show (!(s.up == s.up)) = false; simp) ?_
  refine WR.iteF (by show (!(s.frozen == s.frozen)) = false; simp) ?_
  refine WR.iteF (by show (!decide (s.round = s.round)) = false; simp) ?_
  refine WR.ev h1 rfl rfl rfl (WR.iteF rfl ?_)
  refine WR.ev h2 rfl rfl rfl (WR.iteF rfl ?_)
  exact WR.ev h3 rfl rfl rfl (WR.iteF rfl (WR.done rfl))
theorem plnOk_n {p : Pln} (h : plnOk p = true) : 1 ≤ p.n ∧ p.n ≤ 4 ∧ p.start.length = 3 ∧ trtOk p.start p.gives = true := by
  simp only [plnOk, Bool.and_eq_true, inB_iff, allIn_iff] at h
  obtain ⟨⟨h1, h2⟩, _, ⟨h3, _⟩, h4⟩ := h
  exact ⟨h1, h2, by omega, h4⟩
abbrev tyPlan : Ty := .st [.i .i64, .sl (.sl tyLine), tyInts, tyInts]
theorem plan_of {ds : List D} (h : TySh tyPlan ds) : ∃ p : Pln, ds = p.cells ∧ bigPln p := by
  obtain ⟨_, _, rfl, ⟨n, rfl⟩, _, _, rfl, h1, _, _, rfl, h2, _, _, rfl, h3, rfl⟩ := h
  obtain ⟨as, rfl, ha⟩ := acts_of h1
  obtain ⟨g, rfl, hg⟩ := ints_of h2
  obtain ⟨s, rfl, hs⟩ := ints_of h3
  exact ⟨⟨n, as, g, s⟩, rfl, ha, hg, hs⟩
end Go.Proofs.YtdibnlhlngodeaaGreatDoor
