/-
  DERIVED. GIVEN WITH THE SEED: THE CARDS: each row of YtgpjnnkmmplicabGreatDoorRows.lean that lists a variable, with what it lists TIED to the program's text (the seventh form; the later family's looks); each row that meets fmt, with fmt's text TOLD by the authors' own Lean function (tested against real Go, not proved from fmt's source: count such statements apart). THE CARD IS WHAT COUNTS. Prove the row's statement (the work); the ties are given (YtgpjnnkmmplicabGreatDoorTie.lean); close each card by the builder's one call (the guide's Derived/Test/ToyasCard.lean, 'card_holds'). Laid BY PROGRAM, IN A SANDBOX (cutbox-door.mjs). By AI agents, Wed Nov 11 2026. No macro, syntax, notation, axiom, sorry.
-/
import Derived.Test.YtgpjnnkmmplicabGreatDoorRows
import GoSem.ClaimSeven
namespace Go.Proofs.YtgpjnnkmmplicabGreatDoor
namespace Rows

/-- THE TIED CARD OF 'laws.FnExactClkFold'. -/
def fnExactClkFoldCard : Claim7 := { stood := { row := fnExactClkFoldRow, standIns := [], harness := (true, "2ee2009955d9d87089a107904bdf4527dbbe70372534b9f7aeef023164e240c0"), looks := false }, kinds := [], alts := [], laidByText := true, laidKinds := [.data, .data, .data], laidTests := true, laidLooks := .later }
def FnExactClkFoldCardSaid : Prop := Claim7.holds Tryz.pinned (.plain (OpenSpec.ofChange fnExactClkFoldSpec)) fnExactClkFoldCard

/-- THE SECOND FORM's CARD OF 'laws.FnExactClkFold'. -/
def fnExactClkFoldUptoCard : Claim7 := { stood := { row := fnExactClkFoldUptoRow, standIns := [], harness := (true, "2ee2009955d9d87089a107904bdf4527dbbe70372534b9f7aeef023164e240c0"), looks := false }, kinds := [], alts := [], laidByText := true, laidKinds := [.data, .data, .data], laidTests := true, laidLooks := .later }
def FnExactClkFoldUptoCardSaid : Prop := Claim7.holds Tryz.pinned (.plain (OpenSpec.upto fnExactClkFoldSpec)) fnExactClkFoldUptoCard
end Rows
end Go.Proofs.YtgpjnnkmmplicabGreatDoor
