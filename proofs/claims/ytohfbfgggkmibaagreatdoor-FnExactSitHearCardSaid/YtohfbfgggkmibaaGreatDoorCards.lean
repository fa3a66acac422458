/-
  DERIVED. GIVEN WITH THE SEED: THE CARDS: each row of YtohfbfgggkmibaaGreatDoorRows.lean that lists a variable, with what it lists TIED to the program's text (the seventh form; the later family's looks); each row that meets fmt, with fmt's text TOLD by the authors' own Lean function (tested against real Go, not proved from fmt's source: count such statements apart). THE CARD IS WHAT COUNTS. Prove the row's statement (the work); the ties are given (YtohfbfgggkmibaaGreatDoorTie.lean); close each card by the builder's one call (the guide's Derived/Test/ToyasCard.lean, 'card_holds'). Laid BY PROGRAM, IN A SANDBOX (cutbox-door.mjs). By AI agents, Wed Nov 11 2026. No macro, syntax, notation, axiom, sorry.
-/
import Derived.Test.YtohfbfgggkmibaaGreatDoorRows
import GoSem.ClaimSeven
namespace Go.Proofs.YtohfbfgggkmibaaGreatDoor
namespace Rows

/-- THE TIED CARD OF 'laws.FnExactWldOk'. -/
def fnExactWldOkCard : Claim7 := { stood := { row := fnExactWldOkRow, standIns := [], harness := (true, "8c07aa4dc529b4aabff940b3d231e5d87dc33b9df9980e206dd50c54d32387dc"), looks := false }, kinds := [], alts := [], laidByText := true, laidKinds := [.data, .data, .data], laidTests := true, laidLooks := .later }
def FnExactWldOkCardSaid : Prop := Claim7.holds Tryz.pinned (.plain (OpenSpec.ofChange fnExactWldOkSpec)) fnExactWldOkCard

/-- THE TIED CARD OF 'laws.FnExactClkFall'. -/
def fnExactClkFallCard : Claim7 := { stood := { row := fnExactClkFallRow, standIns := [], harness := (true, "8c07aa4dc529b4aabff940b3d231e5d87dc33b9df9980e206dd50c54d32387dc"), looks := false }, kinds := [], alts := [], laidByText := true, laidKinds := [.data, .data, .data], laidTests := true, laidLooks := .later }
def FnExactClkFallCardSaid : Prop := Claim7.holds Tryz.pinned (.plain (OpenSpec.ofChange fnExactClkFallSpec)) fnExactClkFallCard

/-- THE TIED CARD OF 'laws.FnExactClkTick'. -/
def fnExactClkTickCard : Claim7 := { stood := { row := fnExactClkTickRow, standIns := [], harness := (true, "8c07aa4dc529b4aabff940b3d231e5d87dc33b9df9980e206dd50c54d32387dc"), looks := false }, kinds := [], alts := [], laidByText := true, laidKinds := [.data, .data, .data], laidTests := true, laidLooks := .later }
def FnExactClkTickCardSaid : Prop := Claim7.holds Tryz.pinned (.plain (OpenSpec.ofChange fnExactClkTickSpec)) fnExactClkTickCard

/-- THE TIED CARD OF 'laws.FnExactSitHear'. -/
def fnExactSitHearCard : Claim7 := { stood := { row := fnExactSitHearRow, standIns := [], harness := (true, "8c07aa4dc529b4aabff940b3d231e5d87dc33b9df9980e206dd50c54d32387dc"), looks := false }, kinds := [], alts := [], laidByText := true, laidKinds := [.data, .data, .data], laidTests := true, laidLooks := .later }
def FnExactSitHearCardSaid : Prop := Claim7.holds Tryz.pinned (.plain (OpenSpec.ofChange fnExactSitHearSpec)) fnExactSitHearCard

/-- THE SECOND FORM's CARD OF 'laws.FnExactWldOk'. -/
def fnExactWldOkUptoCard : Claim7 := { stood := { row := fnExactWldOkUptoRow, standIns := [], harness := (true, "8c07aa4dc529b4aabff940b3d231e5d87dc33b9df9980e206dd50c54d32387dc"), looks := false }, kinds := [], alts := [], laidByText := true, laidKinds := [.data, .data, .data], laidTests := true, laidLooks := .later }
def FnExactWldOkUptoCardSaid : Prop := Claim7.holds Tryz.pinned (.plain (OpenSpec.upto fnExactWldOkSpec)) fnExactWldOkUptoCard

/-- THE SECOND FORM's CARD OF 'laws.FnExactClkFall'. -/
def fnExactClkFallUptoCard : Claim7 := { stood := { row := fnExactClkFallUptoRow, standIns := [], harness := (true, "8c07aa4dc529b4aabff940b3d231e5d87dc33b9df9980e206dd50c54d32387dc"), looks := false }, kinds := [], alts := [], laidByText := true, laidKinds := [.data, .data, .data], laidTests := true, laidLooks := .later }
def FnExactClkFallUptoCardSaid : Prop := Claim7.holds Tryz.pinned (.plain (OpenSpec.upto fnExactClkFallSpec)) fnExactClkFallUptoCard

/-- THE SECOND FORM's CARD OF 'laws.FnExactClkTick'. -/
def fnExactClkTickUptoCard : Claim7 := { stood := { row := fnExactClkTickUptoRow, standIns := [], harness := (true, "8c07aa4dc529b4aabff940b3d231e5d87dc33b9df9980e206dd50c54d32387dc"), looks := false }, kinds := [], alts := [], laidByText := true, laidKinds := [.data, .data, .data], laidTests := true, laidLooks := .later }
def FnExactClkTickUptoCardSaid : Prop := Claim7.holds Tryz.pinned (.plain (OpenSpec.upto fnExactClkTickSpec)) fnExactClkTickUptoCard

/-- THE SECOND FORM's CARD OF 'laws.FnExactSitHear'. -/
def fnExactSitHearUptoCard : Claim7 := { stood := { row := fnExactSitHearUptoRow, standIns := [], harness := (true, "8c07aa4dc529b4aabff940b3d231e5d87dc33b9df9980e206dd50c54d32387dc"), looks := false }, kinds := [], alts := [], laidByText := true, laidKinds := [.data, .data, .data], laidTests := true, laidLooks := .later }
def FnExactSitHearUptoCardSaid : Prop := Claim7.holds Tryz.pinned (.plain (OpenSpec.upto fnExactSitHearSpec)) fnExactSitHearUptoCard
end Rows
end Go.Proofs.YtohfbfgggkmibaaGreatDoor
