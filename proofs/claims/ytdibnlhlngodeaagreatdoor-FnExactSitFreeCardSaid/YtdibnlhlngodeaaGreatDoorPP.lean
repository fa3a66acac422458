import Derived.Test.YtdibnlhlngodeaaGreatDoorPO
import Derived.Test.YtdibnlhlngodeaaGreatDoorPF
set_option linter.unusedVariables false
set_option linter.unusedSimpArgs false
/- What draws of any acts come to, and the comparisons of rows. -/
namespace Go.Proofs.YtdibnlhlngodeaaGreatDoor
open Go Go.Tm
def slimF (f : Frm) : Prop := f.c.length ≤ 3 ∧ f.d.length ≤ 3
def thinA (a : List Line) : Prop := a.length ≤ 7 ∧ ∀ l ∈ a, slimF l.f
theorem thinA.fit {a : List Line} (h : thinA a) : fitAct a := ⟨by have := h.1; omega, fun l hl => ⟨by have := (h.2 l hl).1; omega, by have := (h.2 l hl).2; omega⟩⟩
theorem thinA.set {a : List Line} (h : thinA a) {x : Line} (hx : slimF x.f) (k : Nat) : thinA (a.set k x) := by
  refine ⟨by simp; exact h.1, fun l hl => ?_⟩
  rcases List.mem_or_eq_of_mem_set hl with hl | hl
  · exact h.2 l hl
  · subst hl; exact hx
end Go.Proofs.YtdibnlhlngodeaaGreatDoor
