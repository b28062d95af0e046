/-
  DERIVED. GIVEN WITH THE SEED: THE CARDS: each row of YtdfanfpembebmaaGreatDoorRows.lean that lists a variable, with what it lists TIED to the program's text (the seventh form; the later family's looks); each row that meets fmt, with fmt's text TOLD by the authors' own Lean function (tested against real Go, not proved from fmt's source: count such statements apart). THE CARD IS WHAT COUNTS. Prove the row's statement (the work); the ties are given (YtdfanfpembebmaaGreatDoorTie.lean); close each card by the builder's one call (the guide's Derived/Test/ToyasCard.lean, 'card_holds'). Laid BY PROGRAM, IN A SANDBOX (cutbox-door.mjs). By AI agents, Wed Nov 11 2026. No macro, syntax, notation, axiom, sorry.
-/
import Derived.Test.YtdfanfpembebmaaGreatDoorRows
import GoSem.ClaimSeven
namespace Go.Proofs.YtdfanfpembebmaaGreatDoor
namespace Rows

/-- THE TIED CARD OF 'laws.FnExactReady'. -/
def fnExactReadyCard : Claim7 := { stood := { row := fnExactReadyRow, standIns := [], harness := (true, "ef8270a026fb8c61ed1c610435e4752304e8105ef4715006dc48719247ff7a2f"), looks := true }, kinds := [], alts := [], laidByText := true, laidKinds := [.data, .data, .data, .sentinel, .sentinel], laidTests := true, laidLooks := .later }
def FnExactReadyCardSaid : Prop := Claim7.holds Tryz.pinned (.plain (OpenSpec.ofChange fnExactReadySpec)) fnExactReadyCard

/-- THE TIED CARD OF 'laws.FnExactBusy'. -/
def fnExactBusyCard : Claim7 := { stood := { row := fnExactBusyRow, standIns := [], harness := (true, "ef8270a026fb8c61ed1c610435e4752304e8105ef4715006dc48719247ff7a2f"), looks := true }, kinds := [], alts := [], laidByText := true, laidKinds := [.data, .data, .data, .sentinel, .sentinel], laidTests := true, laidLooks := .later }
def FnExactBusyCardSaid : Prop := Claim7.holds Tryz.pinned (.plain (OpenSpec.ofChange fnExactBusySpec)) fnExactBusyCard

/-- THE TIED CARD OF 'laws.FnTakeLine'. -/
def fnTakeLineCard : Claim7 := { stood := { row := fnTakeLineRow, standIns := [], harness := (true, "ef8270a026fb8c61ed1c610435e4752304e8105ef4715006dc48719247ff7a2f"), looks := true }, kinds := [], alts := [], laidByText := true, laidKinds := [.data, .data, .data, .sentinel, .sentinel], laidTests := true, laidLooks := .later }
def FnTakeLineCardSaid : Prop := Claim7.holds Tryz.pinned (.plain (OpenSpec.ofChange fnTakeLineSpec)) fnTakeLineCard

/-- THE SECOND FORM's CARD OF 'laws.FnExactReady'. -/
def fnExactReadyUptoCard : Claim7 := { stood := { row := fnExactReadyUptoRow, standIns := [], harness := (true, "ef8270a026fb8c61ed1c610435e4752304e8105ef4715006dc48719247ff7a2f"), looks := true }, kinds := [], alts := [], laidByText := true, laidKinds := [.data, .data, .data, .sentinel, .sentinel], laidTests := true, laidLooks := .later }
def FnExactReadyUptoCardSaid : Prop := Claim7.holds Tryz.pinned (.plain (OpenSpec.upto fnExactReadySpec)) fnExactReadyUptoCard

/-- THE SECOND FORM's CARD OF 'laws.FnExactBusy'. -/
def fnExactBusyUptoCard : Claim7 := { stood := { row := fnExactBusyUptoRow, standIns := [], harness := (true, "ef8270a026fb8c61ed1c610435e4752304e8105ef4715006dc48719247ff7a2f"), looks := true }, kinds := [], alts := [], laidByText := true, laidKinds := [.data, .data, .data, .sentinel, .sentinel], laidTests := true, laidLooks := .later }
def FnExactBusyUptoCardSaid : Prop := Claim7.holds Tryz.pinned (.plain (OpenSpec.upto fnExactBusySpec)) fnExactBusyUptoCard

/-- THE SECOND FORM's CARD OF 'laws.FnTakeLine'. -/
def fnTakeLineUptoCard : Claim7 := { stood := { row := fnTakeLineUptoRow, standIns := [], harness := (true, "ef8270a026fb8c61ed1c610435e4752304e8105ef4715006dc48719247ff7a2f"), looks := true }, kinds := [], alts := [], laidByText := true, laidKinds := [.data, .data, .data, .sentinel, .sentinel], laidTests := true, laidLooks := .later }
def FnTakeLineUptoCardSaid : Prop := Claim7.holds Tryz.pinned (.plain (OpenSpec.upto fnTakeLineSpec)) fnTakeLineUptoCard
end Rows
end Go.Proofs.YtdfanfpembebmaaGreatDoor
