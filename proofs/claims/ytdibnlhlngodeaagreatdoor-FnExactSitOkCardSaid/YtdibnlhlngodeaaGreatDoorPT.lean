/- There is one way, and it is the act; what an act does not read turns no answer; with an act more there is more: over residual programs. -/
import Derived.Test.YtdibnlhlngodeaaGreatDoorPS
import Derived.Test.YtdibnlhlngodeaaGreatDoorPK
import Derived.Test.YtdibnlhlngodeaaGreatDoorTd
set_option linter.unusedVariables false
set_option linter.unusedSimpArgs false
namespace Go.Proofs.YtdibnlhlngodeaaGreatDoor
open Go Go.Tm

def rowFitsM (r : Row) (v w : List Int) : Bool := valOk v && argOk w && guardsHold r v w

theorem addU_one {a b : List Int} (h : b.length = a.length) : addU a b 1 = List.zipWith (· + ·) a b := by
  rw [addU_eq h]
  unfold addL
  congr 1
  funext x y
  omega

theorem at_lim {f : Frm} {v w : List Int} (h : AtFit f v w) : -6000000000000000 ≤ atF f v w ∧ atF f v w ≤ 6000000000000000 := by
  obtain ⟨s1, s2, s3⟩ := h.sums
  unfold atF; omega
theorem atL_lim {fs : List Frm} {v w : List Int} (h : ∀ f ∈ fs, AtFit f v w) : Lim 6000000000000000 (atL fs v w) := by
  intro x hx
  simp only [atL, List.mem_map] at hx
  obtain ⟨f, hf, rfl⟩ := hx
  exact at_lim (h f hf)

theorem run_len {v w : List Int} : ∀ (n : Nat) (a : List Line) (x t : List Int), a.length = n → (run v w a x t).tells.length ≤ t.length + n := by
  intro n
  induction n using Nat.strongRecOn with
  | _ n ih =>
    intro a x t hn
    cases a with
    | nil => rw [run]; unfold endOf; split <;> simp
    | cons l rest =>
      simp only [List.length_cons] at hn
      rw [run]
      split
      · simp
      split
      · split
        · have := ih (rest.drop l.skip.toNat).length (by simp; omega) (rest.drop l.skip.toNat) x t rfl
          simp at this; omega
        · have := ih rest.length (by omega) rest x t rfl; omega
      split
      · have := ih rest.length (by omega) rest (x.set l.pot.toNat (x.getD l.pot.toNat 0 + atF l.f x w)) t rfl; omega
      · have := ih rest.length (by omega) rest x (t ++ [atF l.f x w]) rfl
        simp at this; omega

theorem actRun_len {a : List Line} {v w : List Int} (ha : fitAct a) (hv : v.length ≤ 1000) : (actRun a v w).tells.length ≤ 2000000 := by
  unfold actRun
  split
  · have := run_len (v := v) (w := w) a.length a v [] rfl
    have := ha.1
    simp at *; omega
  · simp

/-! ### What is not read -/

theorem catReads_len (a : List Line) : (catReads a).length ≤ 3 := by
  unfold catReads; split
  · rw [pots_len]; omega
  · simp

theorem done_end {r : Row} {v w : List Int} (h : (rowRes r v w).code = 1) : (rowRes r v w).is = List.zipWith (· + ·) v (atL r.adds v w) ∧ (rowRes r v w).tells = atL r.tells v w ∧ r.stop = false := by
  unfold rowRes at *
  split at h
  · simp at h
  · rename_i hs
    rw [if_neg hs]
    unfold endOf at *
    split at h
    · rename_i hv; rw [if_pos hv]; exact ⟨rfl, rfl, by simpa using hs⟩
    · simp at h

end Go.Proofs.YtdibnlhlngodeaaGreatDoor
