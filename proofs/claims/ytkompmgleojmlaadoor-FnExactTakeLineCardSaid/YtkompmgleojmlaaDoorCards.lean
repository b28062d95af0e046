/-
  DERIVED. GIVEN WITH THE SEED: THE CARDS: each row of YtkompmgleojmlaaDoorRows.lean that lists a variable, with what it lists TIED to the program's text (the seventh form; the later family's looks); each row that meets fmt, with fmt's text TOLD by the authors' own Lean function (tested against real Go, not proved from fmt's source: count such statements apart). THE CARD IS WHAT COUNTS. Prove the row's statement (the work); the ties are given (YtkompmgleojmlaaDoorTie.lean); close each card by the builder's one call (the guide's Derived/Test/ToyasCard.lean, 'card_holds'). Laid BY PROGRAM, IN A SANDBOX (cutbox-door.mjs). By AI agents, Wed Nov 11 2026. No macro, syntax, notation, axiom, sorry.
-/
import Derived.Test.YtkompmgleojmlaaDoorRows
import GoSem.ClaimSeven
namespace Go.Proofs.YtkompmgleojmlaaDoor
namespace Rows

/-- THE TIED CARD OF 'laws.FnExactLineEnd'. -/
def fnExactLineEndCard : Claim7 := { stood := { row := fnExactLineEndRow, standIns := [], harness := (true, "7a13c62a74a58edcdd35e4454c06419efdafb0ff1861620aca459f74f653d4e5"), looks := true }, kinds := [], alts := [], laidByText := true, laidKinds := [.data, .data, .data, .sentinel, .sentinel], laidTests := true, laidLooks := .later }
def FnExactLineEndCardSaid : Prop := Claim7.holds Tryd.pinned (.plain (OpenSpec.ofChange fnExactLineEndSpec)) fnExactLineEndCard

/-- THE TIED CARD OF 'laws.FnExactTakeLine'. -/
def fnExactTakeLineCard : Claim7 := { stood := { row := fnExactTakeLineRow, standIns := [], harness := (true, "7a13c62a74a58edcdd35e4454c06419efdafb0ff1861620aca459f74f653d4e5"), looks := true }, kinds := [], alts := [], laidByText := true, laidKinds := [.data, .data, .data, .sentinel, .sentinel], laidTests := true, laidLooks := .later }
def FnExactTakeLineCardSaid : Prop := Claim7.holds Tryd.pinned (.plain (OpenSpec.ofChange fnExactTakeLineSpec)) fnExactTakeLineCard

/-- THE SECOND FORM's CARD OF 'laws.FnExactLineEnd'. -/
def fnExactLineEndUptoCard : Claim7 := { stood := { row := fnExactLineEndUptoRow, standIns := [], harness := (true, "7a13c62a74a58edcdd35e4454c06419efdafb0ff1861620aca459f74f653d4e5"), looks := true }, kinds := [], alts := [], laidByText := true, laidKinds := [.data, .data, .data, .sentinel, .sentinel], laidTests := true, laidLooks := .later }
def FnExactLineEndUptoCardSaid : Prop := Claim7.holds Tryd.pinned (.plain (OpenSpec.upto fnExactLineEndSpec)) fnExactLineEndUptoCard

/-- THE SECOND FORM's CARD OF 'laws.FnExactTakeLine'. -/
def fnExactTakeLineUptoCard : Claim7 := { stood := { row := fnExactTakeLineUptoRow, standIns := [], harness := (true, "7a13c62a74a58edcdd35e4454c06419efdafb0ff1861620aca459f74f653d4e5"), looks := true }, kinds := [], alts := [], laidByText := true, laidKinds := [.data, .data, .data, .sentinel, .sentinel], laidTests := true, laidLooks := .later }
def FnExactTakeLineUptoCardSaid : Prop := Claim7.holds Tryd.pinned (.plain (OpenSpec.upto fnExactTakeLineSpec)) fnExactTakeLineUptoCard
end Rows
end Go.Proofs.YtkompmgleojmlaaDoor
