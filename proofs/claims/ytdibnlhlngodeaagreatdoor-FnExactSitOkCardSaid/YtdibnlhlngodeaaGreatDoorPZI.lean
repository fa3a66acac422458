/- The program's LocTry answers as the reference's: over residual programs. -/
import Derived.Test.YtdibnlhlngodeaaGreatDoorPZG
import Derived.Test.YtdibnlhlngodeaaGreatDoorPY
import Derived.Test.YtdibnlhlngodeaaGreatDoorPZ
set_option linter.unusedVariables false
set_option linter.unusedSimpArgs false
namespace Go.Proofs.YtdibnlhlngodeaaGreatDoor
open Go Go.Tm

theorem loc_lens (as : List (List Line)) (b g : List Int) (s : Int) (a : List Int) (k : Int) (w : List Int) (ha : a.length ≤ 2000000) : (locM as b g s a k w).tells.length ≤ 2000000 ∧ (locM as b g s a k w).adds.length ≤ 2000000 := by
  have key : ∀ r, r ∈ rowsOf (as.getD k.toNat []) → (rowLoc b g (catForms as) (catPins as) s a w r).tells.length ≤ 2000000 ∧ (rowLoc b g (catForms as) (catPins as) s a w r).adds.length ≤ 2000000 := by
    intro r hr
    have hf := rows_fit r hr
    have hs : (sumL a (atL r.adds b w)).length ≤ a.length := by unfold sumL; rw [List.length_zipWith]; omega
    have ht : (atL r.tells b w).length = r.tells.length := by simp [atL]
    have htl := hf.tl
    unfold rowLoc
    repeat' split
    all_goals first
      | exact ⟨by simp, ha⟩
      | exact ⟨by simp only [ht]; omega, by simp only; omega⟩
  unfold locM
  split
  · split
    · rename_i r hr
      exact key r (List.mem_of_find?_eq_some hr)
    · exact ⟨by simp, ha⟩
  · exact ⟨by simp, by simp⟩

abbrev tyTrt : Ty := .st [tyInts, tyInts]

end Go.Proofs.YtdibnlhlngodeaaGreatDoor
