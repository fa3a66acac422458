/-
  DERIVED. GIVEN WITH THE SEED: THE CARDS: each row of YtofcmnglieaoeaaGreatDoorRows.lean that lists a variable, with what it lists TIED to the program's text (the seventh form; the later family's looks); each row that meets fmt, with fmt's text TOLD by the authors' own Lean function (tested against real Go, not proved from fmt's source: count such statements apart). THE CARD IS WHAT COUNTS. Prove the row's statement (the work); the ties are given (YtofcmnglieaoeaaGreatDoorTie.lean); close each card by the builder's one call (the guide's Derived/Test/ToyasCard.lean, 'card_holds'). Laid BY PROGRAM, IN A SANDBOX (cutbox-door.mjs). By AI agents, Wed Nov 11 2026. No macro, syntax, notation, axiom, sorry.
-/
import Derived.Test.YtofcmnglieaoeaaGreatDoorRows
import GoSem.ClaimSeven
namespace Go.Proofs.YtofcmnglieaoeaaGreatDoor
namespace Rows

/-- THE TIED CARD OF 'laws.FnSitHear'. -/
def fnSitHearCard : Claim7 := { stood := { row := fnSitHearRow, standIns := [], harness := (true, "d978b61fcade95dfa8faf8a11daf96046b499195d420863db5f58da750c50899"), looks := false }, kinds := [], alts := [], laidByText := true, laidKinds := [.data, .data, .data], laidTests := true, laidLooks := .later }
def FnSitHearCardSaid : Prop := Claim7.holds Tryz.pinned (.plain (OpenSpec.ofChange fnSitHearSpec)) fnSitHearCard

/-- THE TIED CARD OF 'laws.FnSitGives'. -/
def fnSitGivesCard : Claim7 := { stood := { row := fnSitGivesRow, standIns := [], harness := (true, "d978b61fcade95dfa8faf8a11daf96046b499195d420863db5f58da750c50899"), looks := false }, kinds := [], alts := [], laidByText := true, laidKinds := [.data, .data, .data], laidTests := true, laidLooks := .later }
def FnSitGivesCardSaid : Prop := Claim7.holds Tryz.pinned (.plain (OpenSpec.ofChange fnSitGivesSpec)) fnSitGivesCard

/-- THE SECOND FORM's CARD OF 'laws.FnSitHear'. -/
def fnSitHearUptoCard : Claim7 := { stood := { row := fnSitHearUptoRow, standIns := [], harness := (true, "d978b61fcade95dfa8faf8a11daf96046b499195d420863db5f58da750c50899"), looks := false }, kinds := [], alts := [], laidByText := true, laidKinds := [.data, .data, .data], laidTests := true, laidLooks := .later }
def FnSitHearUptoCardSaid : Prop := Claim7.holds Tryz.pinned (.plain (OpenSpec.upto fnSitHearSpec)) fnSitHearUptoCard

/-- THE SECOND FORM's CARD OF 'laws.FnSitGives'. -/
def fnSitGivesUptoCard : Claim7 := { stood := { row := fnSitGivesUptoRow, standIns := [], harness := (true, "d978b61fcade95dfa8faf8a11daf96046b499195d420863db5f58da750c50899"), looks := false }, kinds := [], alts := [], laidByText := true, laidKinds := [.data, .data, .data], laidTests := true, laidLooks := .later }
def FnSitGivesUptoCardSaid : Prop := Claim7.holds Tryz.pinned (.plain (OpenSpec.upto fnSitGivesSpec)) fnSitGivesUptoCard
end Rows
end Go.Proofs.YtofcmnglieaoeaaGreatDoor
