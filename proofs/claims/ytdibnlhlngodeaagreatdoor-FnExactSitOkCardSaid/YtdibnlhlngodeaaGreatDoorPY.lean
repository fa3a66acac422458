/- What a site does alone: the tries themselves, over residual programs. -/
import Derived.Test.YtdibnlhlngodeaaGreatDoorPX
set_option linter.unusedVariables false
set_option linter.unusedSimpArgs false
namespace Go.Proofs.YtdibnlhlngodeaaGreatDoor
open Go Go.Tm

/-- Of a row that fits, at a treaty's base. -/
theorem at_base {b w : List Int} (hb : valOk b = true) (hw : argOk w = true) {fs : List Frm} (hf : ∀ f ∈ fs, Std 10000000 f) : ∀ f ∈ fs, AtFit f b w := fun f hm => AtFit.std (hf f hm) hb hw
theorem atL_len (fs : List Frm) (v w : List Int) : (atL fs v w).length = fs.length := by simp [atL]

theorem three_at {i : Nat} (h : i < 3) : [0, 1, 2][i]? = some i := by
  match i, h with
  | 0, _ | 1, _ | 2, _ => rfl

theorem pins_len {as : List (List Line)} (h : catOk as = true) : (catPins as).length = 3 := by rw [catPins_eq h, pots_len]

theorem loc_no {as : List (List Line)} {b g : List Int} {s : Int} {a : List Int} {k : Int} {w : List Int} (h : locFine as b g s a k w = false) : locM as b g s a k w = ⟨0, [], [], false⟩ := by
  unfold locM; rw [h]; rfl

/-- What is not ok at its turn. -/
def Range (O U : Nat → Bool) (b g : List Int) (ps : List (List Int)) (s : Int) (a w : List Int) : Prop :=
  ∀ i, O i = ([0, 1, 2].take i).any (ovM b g ps s a w) ∧ U i = ([0, 1, 2].take i).any (unM b g ps s a w)
theorem Range.step {O U : Nat → Bool} {b g : List Int} {ps : List (List Int)} {s : Int} {a w : List Int} (h : Range O U b g ps s a w) {i : Nat} (hi : i < 3) :
    O (i + 1) = (O i || (decide (10000 < (boundsM b g ps s a (potF i) w).1) || decide ((boundsM b g ps s a (potF i) w).2.1 < -10000))) ∧
    U (i + 1) = (U i || (decide ((boundsM b g ps s a (potF i) w).1 < -10000) || decide (10000 < (boundsM b g ps s a (potF i) w).2.1))) := by
  rw [(h (i + 1)).1, (h (i + 1)).2, (h i).1, (h i).2, any_step (three_at hi), any_step (three_at hi)]
  exact ⟨rfl, rfl⟩
theorem Range.zero {O U : Nat → Bool} {b g : List Int} {ps : List (List Int)} {s : Int} {a w : List Int} (h : Range O U b g ps s a w) : O 0 = false ∧ U 0 = false := ⟨(h 0).1, (h 0).2⟩
theorem Range.three {O U : Nat → Bool} {b g : List Int} {ps : List (List Int)} {s : Int} {a w : List Int} (h : Range O U b g ps s a w) : O 3 = [0, 1, 2].any (ovM b g ps s a w) ∧ U 3 = [0, 1, 2].any (unM b g ps s a w) := ⟨(h 3).1, (h 3).2⟩

end Go.Proofs.YtdibnlhlngodeaaGreatDoor
