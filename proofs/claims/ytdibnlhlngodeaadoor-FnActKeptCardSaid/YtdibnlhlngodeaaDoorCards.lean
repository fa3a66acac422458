/-
  DERIVED. GIVEN WITH THE SEED: THE CARDS: each row of YtdibnlhlngodeaaDoorRows.lean that lists a variable, with what it lists TIED to the program's text (the seventh form; the later family's looks); each row that meets fmt, with fmt's text TOLD by the authors' own Lean function (tested against real Go, not proved from fmt's source: count such statements apart). THE CARD IS WHAT COUNTS. Prove the row's statement (the work); the ties are given (YtdibnlhlngodeaaDoorTie.lean); close each card by the builder's one call (the guide's Derived/Test/ToyasCard.lean, 'card_holds'). Laid BY PROGRAM, IN A SANDBOX (cutbox-door.mjs). By AI agents, Wed Nov 11 2026. No macro, syntax, notation, axiom, sorry.
-/
import Derived.Test.YtdibnlhlngodeaaDoorRows
import GoSem.ClaimSeven
namespace Go.Proofs.YtdibnlhlngodeaaDoor
namespace Rows

/-- THE TIED CARD OF 'laws.FnActKept'. -/
def fnActKeptCard : Claim7 := { stood := { row := fnActKeptRow, standIns := [], harness := (true, "533bf1513f2097a54a89561510ecc745c563e41d75c56c6bcf3ae2fc6ffa9070"), looks := false }, kinds := [], alts := [], laidByText := true, laidKinds := [.data, .data, .data], laidTests := true, laidLooks := .later }
def FnActKeptCardSaid : Prop := Claim7.holds Tryd.pinned (.plain (OpenSpec.ofChange fnActKeptSpec)) fnActKeptCard

/-- THE SECOND FORM's CARD OF 'laws.FnActKept'. -/
def fnActKeptUptoCard : Claim7 := { stood := { row := fnActKeptUptoRow, standIns := [], harness := (true, "533bf1513f2097a54a89561510ecc745c563e41d75c56c6bcf3ae2fc6ffa9070"), looks := false }, kinds := [], alts := [], laidByText := true, laidKinds := [.data, .data, .data], laidTests := true, laidLooks := .later }
def FnActKeptUptoCardSaid : Prop := Claim7.holds Tryd.pinned (.plain (OpenSpec.upto fnActKeptSpec)) fnActKeptUptoCard
end Rows
end Go.Proofs.YtdibnlhlngodeaaDoor
