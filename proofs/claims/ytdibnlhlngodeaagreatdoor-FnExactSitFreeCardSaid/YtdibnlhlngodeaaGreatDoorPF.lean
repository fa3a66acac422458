import Derived.Test.YtdibnlhlngodeaaGreatDoorPE
set_option linter.unusedVariables false
set_option linter.unusedSimpArgs false
/- What draws of acts come to. -/
namespace Go.Proofs.YtdibnlhlngodeaaGreatDoor
open Go Go.Tm
def slimA (a : List Line) : Prop := a.length ≤ 5 ∧ (∀ l ∈ a, slim l) ∧ actOk a = true
theorem slimA.fit {a : List Line} (h : slimA a) : fitAct a := ⟨by have := h.1; omega, fun l hl => ⟨by have := (h.2.1 l hl).1; omega, by have := (h.2.1 l hl).2; omega⟩⟩
def slimAs (as : List (List Line)) : Prop := as.length ≤ 4 ∧ ∀ a ∈ as, slimA a
end Go.Proofs.YtdibnlhlngodeaaGreatDoor
