/-
  DERIVED. GIVEN WITH THE SEED: THE CARDS: each row of YtgiejmanbmeloaaGreatDoorRows.lean that lists a variable, with what it lists TIED to the program's text (the seventh form; the later family's looks); each row that meets fmt, with fmt's text TOLD by the authors' own Lean function (tested against real Go, not proved from fmt's source: count such statements apart). THE CARD IS WHAT COUNTS. Prove the row's statement (the work); the ties are given (YtgiejmanbmeloaaGreatDoorTie.lean); close each card by the builder's one call (the guide's Derived/Test/ToyasCard.lean, 'card_holds'). Laid BY PROGRAM, IN A SANDBOX (cutbox-door.mjs). By AI agents, Wed Nov 11 2026. No macro, syntax, notation, axiom, sorry.
-/
import Derived.Test.YtgiejmanbmeloaaGreatDoorRows
import GoSem.ClaimSeven
namespace Go.Proofs.YtgiejmanbmeloaaGreatDoor
namespace Rows

/-- THE TIED CARD OF 'laws.FnExactClkTick'. -/
def fnExactClkTickCard : Claim7 := { stood := { row := fnExactClkTickRow, standIns := [], harness := (true, "57ef32b0a2c7eacfc0813d59ec193a088c75de3b0edda051c6de16837ce8caa0"), looks := false }, kinds := [], alts := [], laidByText := true, laidKinds := [.data, .data, .data], laidTests := true, laidLooks := .later }
def FnExactClkTickCardSaid : Prop := Claim7.holds Tryz.pinned (.plain (OpenSpec.ofChange fnExactClkTickSpec)) fnExactClkTickCard

/-- THE TIED CARD OF 'laws.FnExactSitTry'. -/
def fnExactSitTryCard : Claim7 := { stood := { row := fnExactSitTryRow, standIns := [], harness := (true, "57ef32b0a2c7eacfc0813d59ec193a088c75de3b0edda051c6de16837ce8caa0"), looks := false }, kinds := [], alts := [], laidByText := true, laidKinds := [.data, .data, .data], laidTests := true, laidLooks := .later }
def FnExactSitTryCardSaid : Prop := Claim7.holds Tryz.pinned (.plain (OpenSpec.ofChange fnExactSitTrySpec)) fnExactSitTryCard

/-- THE TIED CARD OF 'laws.FnExactClkFold'. -/
def fnExactClkFoldCard : Claim7 := { stood := { row := fnExactClkFoldRow, standIns := [], harness := (true, "57ef32b0a2c7eacfc0813d59ec193a088c75de3b0edda051c6de16837ce8caa0"), looks := false }, kinds := [], alts := [], laidByText := true, laidKinds := [.data, .data, .data], laidTests := true, laidLooks := .later }
def FnExactClkFoldCardSaid : Prop := Claim7.holds Tryz.pinned (.plain (OpenSpec.ofChange fnExactClkFoldSpec)) fnExactClkFoldCard

/-- THE SECOND FORM's CARD OF 'laws.FnExactClkTick'. -/
def fnExactClkTickUptoCard : Claim7 := { stood := { row := fnExactClkTickUptoRow, standIns := [], harness := (true, "57ef32b0a2c7eacfc0813d59ec193a088c75de3b0edda051c6de16837ce8caa0"), looks := false }, kinds := [], alts := [], laidByText := true, laidKinds := [.data, .data, .data], laidTests := true, laidLooks := .later }
def FnExactClkTickUptoCardSaid : Prop := Claim7.holds Tryz.pinned (.plain (OpenSpec.upto fnExactClkTickSpec)) fnExactClkTickUptoCard

/-- THE SECOND FORM's CARD OF 'laws.FnExactSitTry'. -/
def fnExactSitTryUptoCard : Claim7 := { stood := { row := fnExactSitTryUptoRow, standIns := [], harness := (true, "57ef32b0a2c7eacfc0813d59ec193a088c75de3b0edda051c6de16837ce8caa0"), looks := false }, kinds := [], alts := [], laidByText := true, laidKinds := [.data, .data, .data], laidTests := true, laidLooks := .later }
def FnExactSitTryUptoCardSaid : Prop := Claim7.holds Tryz.pinned (.plain (OpenSpec.upto fnExactSitTrySpec)) fnExactSitTryUptoCard

/-- THE SECOND FORM's CARD OF 'laws.FnExactClkFold'. -/
def fnExactClkFoldUptoCard : Claim7 := { stood := { row := fnExactClkFoldUptoRow, standIns := [], harness := (true, "57ef32b0a2c7eacfc0813d59ec193a088c75de3b0edda051c6de16837ce8caa0"), looks := false }, kinds := [], alts := [], laidByText := true, laidKinds := [.data, .data, .data], laidTests := true, laidLooks := .later }
def FnExactClkFoldUptoCardSaid : Prop := Claim7.holds Tryz.pinned (.plain (OpenSpec.upto fnExactClkFoldSpec)) fnExactClkFoldUptoCard
end Rows
end Go.Proofs.YtgiejmanbmeloaaGreatDoor
