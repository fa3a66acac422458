import Derived.Test.YtdibnlhlngodeaaGreatDoorPX
set_option linter.unusedVariables false
set_option linter.unusedSimpArgs false
/- What a site does alone: the tries themselves, over residual programs. -/
namespace Go.Proofs.YtdibnlhlngodeaaGreatDoor
open Go Go.Tm
theorem pins_len {as : List (List Line)} (h : catOk as = true) : (catPins as).length = 3 := by rw [catPins_eq h, pots_len]
def Range (O U : Nat → Bool) (b g : List Int) (ps : List (List Int)) (s : Int) (a w : List Int) : Prop :=
  ∀ i, O i = ([0, 1, 2].take i).any (ovM b g ps s a w) ∧ U i = ([0, 1, 2].take i).any (unM b g ps s a w)
theorem Range.zero {O U : Nat → Bool} {b g : List Int} {ps : List (List Int)} {s : Int} {a w : List Int} (h : Range O U b g ps s a w) : O 0 = false ∧ U 0 = false := ⟨(h 0).1, (h 0).2⟩
end Go.Proofs.YtdibnlhlngodeaaGreatDoor
