/-
  DERIVED. GIVEN WITH THE SEED: THE CARDS: each row of YtofcmnglieaoeabGreatDoorRows.lean that lists a variable, with what it lists TIED to the program's text (the seventh form; the later family's looks); each row that meets fmt, with fmt's text TOLD by the authors' own Lean function (tested against real Go, not proved from fmt's source: count such statements apart). THE CARD IS WHAT COUNTS. Prove the row's statement (the work); the ties are given (YtofcmnglieaoeabGreatDoorTie.lean); close each card by the builder's one call (the guide's Derived/Test/ToyasCard.lean, 'card_holds'). Laid BY PROGRAM, IN A SANDBOX (cutbox-door.mjs). By AI agents, Wed Nov 11 2026. No macro, syntax, notation, axiom, sorry.
-/
import Derived.Test.YtofcmnglieaoeabGreatDoorRows
import GoSem.ClaimSeven
namespace Go.Proofs.YtofcmnglieaoeabGreatDoor
namespace Rows

/-- THE TIED CARD OF 'laws.FnClkFall'. -/
def fnClkFallCard : Claim7 := { stood := { row := fnClkFallRow, standIns := [], harness := (true, "a2e32aedb3e9eb5b8c458d1e6bfa1b3a16653e56781bed1a85d011a4099b8755"), looks := false }, kinds := [], alts := [], laidByText := true, laidKinds := [.data, .data, .data], laidTests := true, laidLooks := .later }
def FnClkFallCardSaid : Prop := Claim7.holds Tryz.pinned (.plain (OpenSpec.ofChange fnClkFallSpec)) fnClkFallCard

/-- THE TIED CARD OF 'laws.FnClkTick'. -/
def fnClkTickCard : Claim7 := { stood := { row := fnClkTickRow, standIns := [], harness := (true, "a2e32aedb3e9eb5b8c458d1e6bfa1b3a16653e56781bed1a85d011a4099b8755"), looks := false }, kinds := [], alts := [], laidByText := true, laidKinds := [.data, .data, .data], laidTests := true, laidLooks := .later }
def FnClkTickCardSaid : Prop := Claim7.holds Tryz.pinned (.plain (OpenSpec.ofChange fnClkTickSpec)) fnClkTickCard

/-- THE SECOND FORM's CARD OF 'laws.FnClkFall'. -/
def fnClkFallUptoCard : Claim7 := { stood := { row := fnClkFallUptoRow, standIns := [], harness := (true, "a2e32aedb3e9eb5b8c458d1e6bfa1b3a16653e56781bed1a85d011a4099b8755"), looks := false }, kinds := [], alts := [], laidByText := true, laidKinds := [.data, .data, .data], laidTests := true, laidLooks := .later }
def FnClkFallUptoCardSaid : Prop := Claim7.holds Tryz.pinned (.plain (OpenSpec.upto fnClkFallSpec)) fnClkFallUptoCard

/-- THE SECOND FORM's CARD OF 'laws.FnClkTick'. -/
def fnClkTickUptoCard : Claim7 := { stood := { row := fnClkTickUptoRow, standIns := [], harness := (true, "a2e32aedb3e9eb5b8c458d1e6bfa1b3a16653e56781bed1a85d011a4099b8755"), looks := false }, kinds := [], alts := [], laidByText := true, laidKinds := [.data, .data, .data], laidTests := true, laidLooks := .later }
def FnClkTickUptoCardSaid : Prop := Claim7.holds Tryz.pinned (.plain (OpenSpec.upto fnClkTickSpec)) fnClkTickUptoCard
end Rows
end Go.Proofs.YtofcmnglieaoeabGreatDoor
