/- All sites keep to a treaty just if each does: over residual programs. -/
import Derived.Test.YtdibnlhlngodeaaGreatDoorPJ
import Derived.Test.YtdibnlhlngodeaaGreatDoorPL
set_option linter.unusedVariables false
set_option linter.unusedSimpArgs false
namespace Go.Proofs.YtdibnlhlngodeaaGreatDoor
open Go Go.Tm

theorem PartsFit.fitLL {n : Nat} {ps : List (List Int)} (h : PartsFit n ps) (hn : n ≤ 2000000) : fitLL ps := ⟨by have := h.len; omega, fun p hp => by rw [(h.each p hp).1]; omega⟩

theorem allIx_take {α : Type} {p : Nat → α → Bool} {l : List α} (k : Nat) (h : allIx p l = true) : allIx p (l.take k) = true := by
  rw [allIx_iff] at h ⊢
  intro i x hx
  rw [List.getElem?_take] at hx
  split at hx
  · exact h i x hx
  · cases hx

end Go.Proofs.YtdibnlhlngodeaaGreatDoor
