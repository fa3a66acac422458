/-
  DERIVED. GIVEN WITH THE SEED: THE CARDS: each row of YtdmjmcegcpdenaaGreatDoorRows.lean that lists a variable, with what it lists TIED to the program's text (the seventh form; the later family's looks); each row that meets fmt, with fmt's text TOLD by the authors' own Lean function (tested against real Go, not proved from fmt's source: count such statements apart). THE CARD IS WHAT COUNTS. Prove the row's statement (the work); the ties are given (YtdmjmcegcpdenaaGreatDoorTie.lean); close each card by the builder's one call (the guide's Derived/Test/ToyasCard.lean, 'card_holds'). Laid BY PROGRAM, IN A SANDBOX (cutbox-door.mjs). By AI agents, Wed Nov 11 2026. No macro, syntax, notation, axiom, sorry.
-/
import Derived.Test.YtdmjmcegcpdenaaGreatDoorRows
import GoSem.ClaimSeven
namespace Go.Proofs.YtdmjmcegcpdenaaGreatDoor
namespace Rows

/-- THE TIED CARD OF 'laws.FnSitGives'. -/
def fnSitGivesCard : Claim7 := { stood := { row := fnSitGivesRow, standIns := [], harness := (true, "7c7e997b1f8ec2db14e80f84d365698c3b5b64610d0f209a3739bce6b8a3833a"), looks := false }, kinds := [], alts := [], laidByText := true, laidKinds := [.data, .data, .data], laidTests := true, laidLooks := .later }
def FnSitGivesCardSaid : Prop := Claim7.holds Tryz.pinned (.plain (OpenSpec.ofChange fnSitGivesSpec)) fnSitGivesCard

/-- THE TIED CARD OF 'laws.FnClkNext'. -/
def fnClkNextCard : Claim7 := { stood := { row := fnClkNextRow, standIns := [], harness := (true, "7c7e997b1f8ec2db14e80f84d365698c3b5b64610d0f209a3739bce6b8a3833a"), looks := false }, kinds := [], alts := [], laidByText := true, laidKinds := [.data, .data, .data], laidTests := true, laidLooks := .later }
def FnClkNextCardSaid : Prop := Claim7.holds Tryz.pinned (.plain (OpenSpec.ofChange fnClkNextSpec)) fnClkNextCard

/-- THE TIED CARD OF 'laws.FnSitOnce'. -/
def fnSitOnceCard : Claim7 := { stood := { row := fnSitOnceRow, standIns := [], harness := (true, "7c7e997b1f8ec2db14e80f84d365698c3b5b64610d0f209a3739bce6b8a3833a"), looks := false }, kinds := [], alts := [], laidByText := true, laidKinds := [.data, .data, .data], laidTests := true, laidLooks := .later }
def FnSitOnceCardSaid : Prop := Claim7.holds Tryz.pinned (.plain (OpenSpec.ofChange fnSitOnceSpec)) fnSitOnceCard

/-- THE TIED CARD OF 'laws.FnSitFall'. -/
def fnSitFallCard : Claim7 := { stood := { row := fnSitFallRow, standIns := [], harness := (true, "7c7e997b1f8ec2db14e80f84d365698c3b5b64610d0f209a3739bce6b8a3833a"), looks := false }, kinds := [], alts := [], laidByText := true, laidKinds := [.data, .data, .data], laidTests := true, laidLooks := .later }
def FnSitFallCardSaid : Prop := Claim7.holds Tryz.pinned (.plain (OpenSpec.ofChange fnSitFallSpec)) fnSitFallCard

/-- THE TIED CARD OF 'laws.FnClkFall'. -/
def fnClkFallCard : Claim7 := { stood := { row := fnClkFallRow, standIns := [], harness := (true, "7c7e997b1f8ec2db14e80f84d365698c3b5b64610d0f209a3739bce6b8a3833a"), looks := false }, kinds := [], alts := [], laidByText := true, laidKinds := [.data, .data, .data], laidTests := true, laidLooks := .later }
def FnClkFallCardSaid : Prop := Claim7.holds Tryz.pinned (.plain (OpenSpec.ofChange fnClkFallSpec)) fnClkFallCard

/-- THE TIED CARD OF 'laws.FnClkTick'. -/
def fnClkTickCard : Claim7 := { stood := { row := fnClkTickRow, standIns := [], harness := (true, "7c7e997b1f8ec2db14e80f84d365698c3b5b64610d0f209a3739bce6b8a3833a"), looks := false }, kinds := [], alts := [], laidByText := true, laidKinds := [.data, .data, .data], laidTests := true, laidLooks := .later }
def FnClkTickCardSaid : Prop := Claim7.holds Tryz.pinned (.plain (OpenSpec.ofChange fnClkTickSpec)) fnClkTickCard

/-- THE TIED CARD OF 'laws.FnSitHear'. -/
def fnSitHearCard : Claim7 := { stood := { row := fnSitHearRow, standIns := [], harness := (true, "7c7e997b1f8ec2db14e80f84d365698c3b5b64610d0f209a3739bce6b8a3833a"), looks := false }, kinds := [], alts := [], laidByText := true, laidKinds := [.data, .data, .data], laidTests := true, laidLooks := .later }
def FnSitHearCardSaid : Prop := Claim7.holds Tryz.pinned (.plain (OpenSpec.ofChange fnSitHearSpec)) fnSitHearCard

/-- THE SECOND FORM's CARD OF 'laws.FnSitGives'. -/
def fnSitGivesUptoCard : Claim7 := { stood := { row := fnSitGivesUptoRow, standIns := [], harness := (true, "7c7e997b1f8ec2db14e80f84d365698c3b5b64610d0f209a3739bce6b8a3833a"), looks := false }, kinds := [], alts := [], laidByText := true, laidKinds := [.data, .data, .data], laidTests := true, laidLooks := .later }
def FnSitGivesUptoCardSaid : Prop := Claim7.holds Tryz.pinned (.plain (OpenSpec.upto fnSitGivesSpec)) fnSitGivesUptoCard

/-- THE SECOND FORM's CARD OF 'laws.FnClkNext'. -/
def fnClkNextUptoCard : Claim7 := { stood := { row := fnClkNextUptoRow, standIns := [], harness := (true, "7c7e997b1f8ec2db14e80f84d365698c3b5b64610d0f209a3739bce6b8a3833a"), looks := false }, kinds := [], alts := [], laidByText := true, laidKinds := [.data, .data, .data], laidTests := true, laidLooks := .later }
def FnClkNextUptoCardSaid : Prop := Claim7.holds Tryz.pinned (.plain (OpenSpec.upto fnClkNextSpec)) fnClkNextUptoCard

/-- THE SECOND FORM's CARD OF 'laws.FnSitOnce'. -/
def fnSitOnceUptoCard : Claim7 := { stood := { row := fnSitOnceUptoRow, standIns := [], harness := (true, "7c7e997b1f8ec2db14e80f84d365698c3b5b64610d0f209a3739bce6b8a3833a"), looks := false }, kinds := [], alts := [], laidByText := true, laidKinds := [.data, .data, .data], laidTests := true, laidLooks := .later }
def FnSitOnceUptoCardSaid : Prop := Claim7.holds Tryz.pinned (.plain (OpenSpec.upto fnSitOnceSpec)) fnSitOnceUptoCard

/-- THE SECOND FORM's CARD OF 'laws.FnSitFall'. -/
def fnSitFallUptoCard : Claim7 := { stood := { row := fnSitFallUptoRow, standIns := [], harness := (true, "7c7e997b1f8ec2db14e80f84d365698c3b5b64610d0f209a3739bce6b8a3833a"), looks := false }, kinds := [], alts := [], laidByText := true, laidKinds := [.data, .data, .data], laidTests := true, laidLooks := .later }
def FnSitFallUptoCardSaid : Prop := Claim7.holds Tryz.pinned (.plain (OpenSpec.upto fnSitFallSpec)) fnSitFallUptoCard

/-- THE SECOND FORM's CARD OF 'laws.FnClkFall'. -/
def fnClkFallUptoCard : Claim7 := { stood := { row := fnClkFallUptoRow, standIns := [], harness := (true, "7c7e997b1f8ec2db14e80f84d365698c3b5b64610d0f209a3739bce6b8a3833a"), looks := false }, kinds := [], alts := [], laidByText := true, laidKinds := [.data, .data, .data], laidTests := true, laidLooks := .later }
def FnClkFallUptoCardSaid : Prop := Claim7.holds Tryz.pinned (.plain (OpenSpec.upto fnClkFallSpec)) fnClkFallUptoCard

/-- THE SECOND FORM's CARD OF 'laws.FnClkTick'. -/
def fnClkTickUptoCard : Claim7 := { stood := { row := fnClkTickUptoRow, standIns := [], harness := (true, "7c7e997b1f8ec2db14e80f84d365698c3b5b64610d0f209a3739bce6b8a3833a"), looks := false }, kinds := [], alts := [], laidByText := true, laidKinds := [.data, .data, .data], laidTests := true, laidLooks := .later }
def FnClkTickUptoCardSaid : Prop := Claim7.holds Tryz.pinned (.plain (OpenSpec.upto fnClkTickSpec)) fnClkTickUptoCard

/-- THE SECOND FORM's CARD OF 'laws.FnSitHear'. -/
def fnSitHearUptoCard : Claim7 := { stood := { row := fnSitHearUptoRow, standIns := [], harness := (true, "7c7e997b1f8ec2db14e80f84d365698c3b5b64610d0f209a3739bce6b8a3833a"), looks := false }, kinds := [], alts := [], laidByText := true, laidKinds := [.data, .data, .data], laidTests := true, laidLooks := .later }
def FnSitHearUptoCardSaid : Prop := Claim7.holds Tryz.pinned (.plain (OpenSpec.upto fnSitHearSpec)) fnSitHearUptoCard
end Rows
end Go.Proofs.YtdmjmcegcpdenaaGreatDoor
