/-
  DERIVED. GIVEN WITH THE SEED: THE CARDS: each row of YtgpjnnkmmplicaaGreatDoorRows.lean that lists a variable, with what it lists TIED to the program's text (the seventh form; the later family's looks); each row that meets fmt, with fmt's text TOLD by the authors' own Lean function (tested against real Go, not proved from fmt's source: count such statements apart). THE CARD IS WHAT COUNTS. Prove the row's statement (the work); the ties are given (YtgpjnnkmmplicaaGreatDoorTie.lean); close each card by the builder's one call (the guide's Derived/Test/ToyasCard.lean, 'card_holds'). Laid BY PROGRAM, IN A SANDBOX (cutbox-door.mjs). By AI agents, Wed Nov 11 2026. No macro, syntax, notation, axiom, sorry.
-/
import Derived.Test.YtgpjnnkmmplicaaGreatDoorRows
import GoSem.ClaimSeven
namespace Go.Proofs.YtgpjnnkmmplicaaGreatDoor
namespace Rows

/-- THE TIED CARD OF 'laws.FnExactSitTry'. -/
def fnExactSitTryCard : Claim7 := { stood := { row := fnExactSitTryRow, standIns := [], harness := (true, "6638c45e3061d13e0b3af5b0782923f8bdb36d17784b98bc2e64811fb2a73666"), looks := false }, kinds := [], alts := [], laidByText := true, laidKinds := [.data, .data, .data], laidTests := true, laidLooks := .later }
def FnExactSitTryCardSaid : Prop := Claim7.holds Tryz.pinned (.plain (OpenSpec.ofChange fnExactSitTrySpec)) fnExactSitTryCard

/-- THE SECOND FORM's CARD OF 'laws.FnExactSitTry'. -/
def fnExactSitTryUptoCard : Claim7 := { stood := { row := fnExactSitTryUptoRow, standIns := [], harness := (true, "6638c45e3061d13e0b3af5b0782923f8bdb36d17784b98bc2e64811fb2a73666"), looks := false }, kinds := [], alts := [], laidByText := true, laidKinds := [.data, .data, .data], laidTests := true, laidLooks := .later }
def FnExactSitTryUptoCardSaid : Prop := Claim7.holds Tryz.pinned (.plain (OpenSpec.upto fnExactSitTrySpec)) fnExactSitTryUptoCard
end Rows
end Go.Proofs.YtgpjnnkmmplicaaGreatDoor
