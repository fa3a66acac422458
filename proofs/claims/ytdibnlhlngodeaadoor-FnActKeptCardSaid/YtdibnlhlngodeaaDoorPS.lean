/- All is kept an eye on; who tells of a pot pins it; with an act more there is more: over residual programs. -/
import Derived.Test.YtdibnlhlngodeaaDoorPR
import Derived.Test.YtdibnlhlngodeaaDoorTd
namespace Go.Proofs.YtdibnlhlngodeaaDoor
open Go Go.Tm

/-! ### Draws of any acts -/

def thinAs (as : List (List Line)) : Prop := as.length ≤ 5 ∧ ∀ a ∈ as, thinA a
theorem thinAs.fit {as : List (List Line)} (h : thinAs as) : fitActs as := ⟨by have := h.1; omega, fun a ha => (h.2 a ha).fit⟩

theorem dActs_set (as : List (List Line)) (k : Nat) (a : List Line) : (dActs as).set k (.s (dAct a)) = dActs (as.set k a) := by simp [dActs, List.map_set]

/-! ### The law of forms -/

/-! ### Pins -/

theorem catPins_len (as : List (List Line)) : (catPins as).length ≤ 3 := by
  cases h : catOk as with
  | true => rw [catPins_eq h, pots_len]; omega
  | false => simp [catPins, h]

end Go.Proofs.YtdibnlhlngodeaaDoor
