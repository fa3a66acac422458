/-
  DERIVED. GIVEN WITH THE SEED: THE CARDS: each row of YtdibnlhlngodeaaGreatDoorRows.lean that lists a variable, with what it lists TIED to the program's text (the seventh form; the later family's looks); each row that meets fmt, with fmt's text TOLD by the authors' own Lean function (tested against real Go, not proved from fmt's source: count such statements apart). THE CARD IS WHAT COUNTS. Prove the row's statement (the work); the ties are given (YtdibnlhlngodeaaGreatDoorTie.lean); close each card by the builder's one call (the guide's Derived/Test/ToyasCard.lean, 'card_holds'). Laid BY PROGRAM, IN A SANDBOX (cutbox-door.mjs). By AI agents, Wed Nov 11 2026. No macro, syntax, notation, axiom, sorry.
-/
import Derived.Test.YtdibnlhlngodeaaGreatDoorRows
import GoSem.ClaimSeven
namespace Go.Proofs.YtdibnlhlngodeaaGreatDoor
namespace Rows

/-- THE TIED CARD OF 'laws.FnExactMsgOk'. -/
def fnExactMsgOkCard : Claim7 := { stood := { row := fnExactMsgOkRow, standIns := [], harness := (true, "1c7edcc55a4e2648a642f8e0698542fd8e1d4b4a7f1aee044cda1a5a8834c17d"), looks := false }, kinds := [], alts := [], laidByText := true, laidKinds := [.data, .data, .data], laidTests := true, laidLooks := .later }
def FnExactMsgOkCardSaid : Prop := Claim7.holds Tryz.pinned (.plain (OpenSpec.ofChange fnExactMsgOkSpec)) fnExactMsgOkCard

/-- THE TIED CARD OF 'laws.FnExactSitOk'. -/
def fnExactSitOkCard : Claim7 := { stood := { row := fnExactSitOkRow, standIns := [], harness := (true, "1c7edcc55a4e2648a642f8e0698542fd8e1d4b4a7f1aee044cda1a5a8834c17d"), looks := false }, kinds := [], alts := [], laidByText := true, laidKinds := [.data, .data, .data], laidTests := true, laidLooks := .later }
def FnExactSitOkCardSaid : Prop := Claim7.holds Tryz.pinned (.plain (OpenSpec.ofChange fnExactSitOkSpec)) fnExactSitOkCard

/-- THE TIED CARD OF 'laws.FnExactSitFree'. -/
def fnExactSitFreeCard : Claim7 := { stood := { row := fnExactSitFreeRow, standIns := [], harness := (true, "1c7edcc55a4e2648a642f8e0698542fd8e1d4b4a7f1aee044cda1a5a8834c17d"), looks := false }, kinds := [], alts := [], laidByText := true, laidKinds := [.data, .data, .data], laidTests := true, laidLooks := .later }
def FnExactSitFreeCardSaid : Prop := Claim7.holds Tryz.pinned (.plain (OpenSpec.ofChange fnExactSitFreeSpec)) fnExactSitFreeCard

/-- THE TIED CARD OF 'laws.FnExactClkOk'. -/
def fnExactClkOkCard : Claim7 := { stood := { row := fnExactClkOkRow, standIns := [], harness := (true, "1c7edcc55a4e2648a642f8e0698542fd8e1d4b4a7f1aee044cda1a5a8834c17d"), looks := false }, kinds := [], alts := [], laidByText := true, laidKinds := [.data, .data, .data], laidTests := true, laidLooks := .later }
def FnExactClkOkCardSaid : Prop := Claim7.holds Tryz.pinned (.plain (OpenSpec.ofChange fnExactClkOkSpec)) fnExactClkOkCard

/-- THE TIED CARD OF 'laws.FnExactClkReady'. -/
def fnExactClkReadyCard : Claim7 := { stood := { row := fnExactClkReadyRow, standIns := [], harness := (true, "1c7edcc55a4e2648a642f8e0698542fd8e1d4b4a7f1aee044cda1a5a8834c17d"), looks := false }, kinds := [], alts := [], laidByText := true, laidKinds := [.data, .data, .data], laidTests := true, laidLooks := .later }
def FnExactClkReadyCardSaid : Prop := Claim7.holds Tryz.pinned (.plain (OpenSpec.ofChange fnExactClkReadySpec)) fnExactClkReadyCard

/-- THE TIED CARD OF 'laws.FnExactSitFall'. -/
def fnExactSitFallCard : Claim7 := { stood := { row := fnExactSitFallRow, standIns := [], harness := (true, "1c7edcc55a4e2648a642f8e0698542fd8e1d4b4a7f1aee044cda1a5a8834c17d"), looks := false }, kinds := [], alts := [], laidByText := true, laidKinds := [.data, .data, .data], laidTests := true, laidLooks := .later }
def FnExactSitFallCardSaid : Prop := Claim7.holds Tryz.pinned (.plain (OpenSpec.ofChange fnExactSitFallSpec)) fnExactSitFallCard

/-- THE TIED CARD OF 'laws.FnSitNew'. -/
def fnSitNewCard : Claim7 := { stood := { row := fnSitNewRow, standIns := [], harness := (true, "1c7edcc55a4e2648a642f8e0698542fd8e1d4b4a7f1aee044cda1a5a8834c17d"), looks := false }, kinds := [], alts := [], laidByText := true, laidKinds := [.data, .data, .data], laidTests := true, laidLooks := .later }
def FnSitNewCardSaid : Prop := Claim7.holds Tryz.pinned (.plain (OpenSpec.ofChange fnSitNewSpec)) fnSitNewCard

/-- THE SECOND FORM's CARD OF 'laws.FnExactMsgOk'. -/
def fnExactMsgOkUptoCard : Claim7 := { stood := { row := fnExactMsgOkUptoRow, standIns := [], harness := (true, "1c7edcc55a4e2648a642f8e0698542fd8e1d4b4a7f1aee044cda1a5a8834c17d"), looks := false }, kinds := [], alts := [], laidByText := true, laidKinds := [.data, .data, .data], laidTests := true, laidLooks := .later }
def FnExactMsgOkUptoCardSaid : Prop := Claim7.holds Tryz.pinned (.plain (OpenSpec.upto fnExactMsgOkSpec)) fnExactMsgOkUptoCard

/-- THE SECOND FORM's CARD OF 'laws.FnExactSitOk'. -/
def fnExactSitOkUptoCard : Claim7 := { stood := { row := fnExactSitOkUptoRow, standIns := [], harness := (true, "1c7edcc55a4e2648a642f8e0698542fd8e1d4b4a7f1aee044cda1a5a8834c17d"), looks := false }, kinds := [], alts := [], laidByText := true, laidKinds := [.data, .data, .data], laidTests := true, laidLooks := .later }
def FnExactSitOkUptoCardSaid : Prop := Claim7.holds Tryz.pinned (.plain (OpenSpec.upto fnExactSitOkSpec)) fnExactSitOkUptoCard

/-- THE SECOND FORM's CARD OF 'laws.FnExactSitFree'. -/
def fnExactSitFreeUptoCard : Claim7 := { stood := { row := fnExactSitFreeUptoRow, standIns := [], harness := (true, "1c7edcc55a4e2648a642f8e0698542fd8e1d4b4a7f1aee044cda1a5a8834c17d"), looks := false }, kinds := [], alts := [], laidByText := true, laidKinds := [.data, .data, .data], laidTests := true, laidLooks := .later }
def FnExactSitFreeUptoCardSaid : Prop := Claim7.holds Tryz.pinned (.plain (OpenSpec.upto fnExactSitFreeSpec)) fnExactSitFreeUptoCard

/-- THE SECOND FORM's CARD OF 'laws.FnExactClkOk'. -/
def fnExactClkOkUptoCard : Claim7 := { stood := { row := fnExactClkOkUptoRow, standIns := [], harness := (true, "1c7edcc55a4e2648a642f8e0698542fd8e1d4b4a7f1aee044cda1a5a8834c17d"), looks := false }, kinds := [], alts := [], laidByText := true, laidKinds := [.data, .data, .data], laidTests := true, laidLooks := .later }
def FnExactClkOkUptoCardSaid : Prop := Claim7.holds Tryz.pinned (.plain (OpenSpec.upto fnExactClkOkSpec)) fnExactClkOkUptoCard

/-- THE SECOND FORM's CARD OF 'laws.FnExactClkReady'. -/
def fnExactClkReadyUptoCard : Claim7 := { stood := { row := fnExactClkReadyUptoRow, standIns := [], harness := (true, "1c7edcc55a4e2648a642f8e0698542fd8e1d4b4a7f1aee044cda1a5a8834c17d"), looks := false }, kinds := [], alts := [], laidByText := true, laidKinds := [.data, .data, .data], laidTests := true, laidLooks := .later }
def FnExactClkReadyUptoCardSaid : Prop := Claim7.holds Tryz.pinned (.plain (OpenSpec.upto fnExactClkReadySpec)) fnExactClkReadyUptoCard

/-- THE SECOND FORM's CARD OF 'laws.FnExactSitFall'. -/
def fnExactSitFallUptoCard : Claim7 := { stood := { row := fnExactSitFallUptoRow, standIns := [], harness := (true, "1c7edcc55a4e2648a642f8e0698542fd8e1d4b4a7f1aee044cda1a5a8834c17d"), looks := false }, kinds := [], alts := [], laidByText := true, laidKinds := [.data, .data, .data], laidTests := true, laidLooks := .later }
def FnExactSitFallUptoCardSaid : Prop := Claim7.holds Tryz.pinned (.plain (OpenSpec.upto fnExactSitFallSpec)) fnExactSitFallUptoCard

/-- THE SECOND FORM's CARD OF 'laws.FnSitNew'. -/
def fnSitNewUptoCard : Claim7 := { stood := { row := fnSitNewUptoRow, standIns := [], harness := (true, "1c7edcc55a4e2648a642f8e0698542fd8e1d4b4a7f1aee044cda1a5a8834c17d"), looks := false }, kinds := [], alts := [], laidByText := true, laidKinds := [.data, .data, .data], laidTests := true, laidLooks := .later }
def FnSitNewUptoCardSaid : Prop := Claim7.holds Tryz.pinned (.plain (OpenSpec.upto fnSitNewSpec)) fnSitNewUptoCard
end Rows
end Go.Proofs.YtdibnlhlngodeaaGreatDoor
