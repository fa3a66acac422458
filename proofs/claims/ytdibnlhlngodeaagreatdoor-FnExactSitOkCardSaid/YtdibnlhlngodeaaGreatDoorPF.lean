/- What draws of acts come to. -/
import Derived.Test.YtdibnlhlngodeaaGreatDoorPE
set_option linter.unusedVariables false
set_option linter.unusedSimpArgs false
namespace Go.Proofs.YtdibnlhlngodeaaGreatDoor
open Go Go.Tm

theorem head_act (a : List Line) : headOk 6 (dAct a) = true := by cases a <;> rfl
theorem dAct_snoc (a : List Line) (l : Line) : dAct a ++ [l.g] = dAct (a ++ [l]) := by simp [dAct]

/-- A short act that is ok, and whose lines are slim. -/
def slimA (a : List Line) : Prop := a.length ≤ 5 ∧ (∀ l ∈ a, slim l) ∧ actOk a = true

theorem slimA.fit {a : List Line} (h : slimA a) : fitAct a := ⟨by have := h.1; omega, fun l hl => ⟨by have := (h.2.1 l hl).1; omega, by have := (h.2.1 l hl).2; omega⟩⟩

theorem dActs_snoc (as : List (List Line)) (a : List Line) : dActs as ++ [.s (dAct a)] = dActs (as ++ [a]) := by simp [dActs]

/-- A few slim acts. -/
def slimAs (as : List (List Line)) : Prop := as.length ≤ 4 ∧ ∀ a ∈ as, slimA a

end Go.Proofs.YtdibnlhlngodeaaGreatDoor
