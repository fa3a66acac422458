/-
  DERIVED. GIVEN WITH THE SEED: THE CARDS: each row of YtngcnclchcahlabGreatDoorRows.lean that lists a variable, with what it lists TIED to the program's text (the seventh form; the later family's looks); each row that meets fmt, with fmt's text TOLD by the authors' own Lean function (tested against real Go, not proved from fmt's source: count such statements apart). THE CARD IS WHAT COUNTS. Prove the row's statement (the work); the ties are given (YtngcnclchcahlabGreatDoorTie.lean); close each card by the builder's one call (the guide's Derived/Test/ToyasCard.lean, 'card_holds'). Laid BY PROGRAM, IN A SANDBOX (cutbox-door.mjs). By AI agents, Wed Nov 11 2026. No macro, syntax, notation, axiom, sorry.
-/
import Derived.Test.YtngcnclchcahlabGreatDoorRows
import GoSem.ClaimSeven
namespace Go.Proofs.YtngcnclchcahlabGreatDoor
namespace Rows

/-- THE TIED CARD OF 'laws.FnClkNext'. -/
def fnClkNextCard : Claim7 := { stood := { row := fnClkNextRow, standIns := [], harness := (true, "8eb1942f54ba41a6e8291c31b5152c81fd68cf43dfd5fa7ce4bbcc1e533c4131"), looks := false }, kinds := [], alts := [], laidByText := true, laidKinds := [.data, .data, .data], laidTests := true, laidLooks := .later }
def FnClkNextCardSaid : Prop := Claim7.holds Tryz.pinned (.plain (OpenSpec.ofChange fnClkNextSpec)) fnClkNextCard

/-- THE SECOND FORM's CARD OF 'laws.FnClkNext'. -/
def fnClkNextUptoCard : Claim7 := { stood := { row := fnClkNextUptoRow, standIns := [], harness := (true, "8eb1942f54ba41a6e8291c31b5152c81fd68cf43dfd5fa7ce4bbcc1e533c4131"), looks := false }, kinds := [], alts := [], laidByText := true, laidKinds := [.data, .data, .data], laidTests := true, laidLooks := .later }
def FnClkNextUptoCardSaid : Prop := Claim7.holds Tryz.pinned (.plain (OpenSpec.upto fnClkNextSpec)) fnClkNextUptoCard
end Rows
end Go.Proofs.YtngcnclchcahlabGreatDoor
