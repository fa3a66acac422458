/-
  DERIVED. GIVEN WITH THE SEED: THE CARDS: each row of YtngcnclchcahlaaGreatDoorRows.lean that lists a variable, with what it lists TIED to the program's text (the seventh form; the later family's looks); each row that meets fmt, with fmt's text TOLD by the authors' own Lean function (tested against real Go, not proved from fmt's source: count such statements apart). THE CARD IS WHAT COUNTS. Prove the row's statement (the work); the ties are given (YtngcnclchcahlaaGreatDoorTie.lean); close each card by the builder's one call (the guide's Derived/Test/ToyasCard.lean, 'card_holds'). Laid BY PROGRAM, IN A SANDBOX (cutbox-door.mjs). By AI agents, Wed Nov 11 2026. No macro, syntax, notation, axiom, sorry.
-/
import Derived.Test.YtngcnclchcahlaaGreatDoorRows
import GoSem.ClaimSeven
namespace Go.Proofs.YtngcnclchcahlaaGreatDoor
namespace Rows

/-- THE TIED CARD OF 'laws.FnSitOnce'. -/
def fnSitOnceCard : Claim7 := { stood := { row := fnSitOnceRow, standIns := [], harness := (true, "94a4fdd323ed0b67694f4f4f8452de4bf560c397c0591624a860a825af622906"), looks := false }, kinds := [], alts := [], laidByText := true, laidKinds := [.data, .data, .data], laidTests := true, laidLooks := .later }
def FnSitOnceCardSaid : Prop := Claim7.holds Tryz.pinned (.plain (OpenSpec.ofChange fnSitOnceSpec)) fnSitOnceCard

/-- THE SECOND FORM's CARD OF 'laws.FnSitOnce'. -/
def fnSitOnceUptoCard : Claim7 := { stood := { row := fnSitOnceUptoRow, standIns := [], harness := (true, "94a4fdd323ed0b67694f4f4f8452de4bf560c397c0591624a860a825af622906"), looks := false }, kinds := [], alts := [], laidByText := true, laidKinds := [.data, .data, .data], laidTests := true, laidLooks := .later }
def FnSitOnceUptoCardSaid : Prop := Claim7.holds Tryz.pinned (.plain (OpenSpec.upto fnSitOnceSpec)) fnSitOnceUptoCard
end Rows
end Go.Proofs.YtngcnclchcahlaaGreatDoor
