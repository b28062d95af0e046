/-
  DERIVED. GIVEN WITH THE SEED: THE CARDS: each row of YtkeglpnnedflnaaGreatDoorRows.lean that lists a variable, with what it lists TIED to the program's text (the seventh form; the later family's looks); each row that meets fmt, with fmt's text TOLD by the authors' own Lean function (tested against real Go, not proved from fmt's source: count such statements apart). THE CARD IS WHAT COUNTS. Prove the row's statement (the work); the ties are given (YtkeglpnnedflnaaGreatDoorTie.lean); close each card by the builder's one call (the guide's Derived/Test/ToyasCard.lean, 'card_holds'). Laid BY PROGRAM, IN A SANDBOX (cutbox-door.mjs). By AI agents, Wed Nov 11 2026. No macro, syntax, notation, axiom, sorry.
-/
import Derived.Test.YtkeglpnnedflnaaGreatDoorRows
import GoSem.ClaimSeven
namespace Go.Proofs.YtkeglpnnedflnaaGreatDoor
namespace Rows

/-- THE TIED CARD OF 'laws.FnParseTokens'. -/
def fnParseTokensCard : Claim7 := { stood := { row := fnParseTokensRow, standIns := [], harness := (true, "df54dde8c73742471dcaf805be657cf1cbaaf7d6100748731a7c4ac1cc6d2e18"), looks := true }, kinds := [], alts := [], laidByText := true, laidKinds := [.data, .data, .data, .sentinel, .sentinel], laidTests := true, laidLooks := .later }
def FnParseTokensCardSaid : Prop := Claim7.holds Tryz.pinned (.plain (OpenSpec.ofChange fnParseTokensSpec)) fnParseTokensCard

/-- THE TIED CARD OF 'laws.FnExactParseTokens'. -/
def fnExactParseTokensCard : Claim7 := { stood := { row := fnExactParseTokensRow, standIns := [], harness := (true, "df54dde8c73742471dcaf805be657cf1cbaaf7d6100748731a7c4ac1cc6d2e18"), looks := true }, kinds := [], alts := [], laidByText := true, laidKinds := [.data, .data, .data, .sentinel, .sentinel], laidTests := true, laidLooks := .later }
def FnExactParseTokensCardSaid : Prop := Claim7.holds Tryz.pinned (.plain (OpenSpec.ofChange fnExactParseTokensSpec)) fnExactParseTokensCard

/-- THE TIED CARD OF 'laws.FnCommand'. -/
def fnCommandCard : Claim7 := { stood := { row := fnCommandRow, standIns := [], harness := (true, "df54dde8c73742471dcaf805be657cf1cbaaf7d6100748731a7c4ac1cc6d2e18"), looks := true }, kinds := [], alts := [], laidByText := true, laidKinds := [.data, .data, .data, .data, .sentinel, .sentinel, .pinned], laidTests := true, laidLooks := .later }
def FnCommandCardSaid : Prop := Claim7.holds Tryz.pinned (.plain (OpenSpec.ofChange fnCommandSpec)) fnCommandCard

/-- THE TIED CARD OF 'laws.FnExactNormal'. -/
def fnExactNormalCard : Claim7 := { stood := { row := fnExactNormalRow, standIns := [], harness := (true, "df54dde8c73742471dcaf805be657cf1cbaaf7d6100748731a7c4ac1cc6d2e18"), looks := true }, kinds := [], alts := [], laidByText := true, laidKinds := [.data, .data, .data, .data, .sentinel, .sentinel, .pinned], laidTests := true, laidLooks := .later }
def FnExactNormalCardSaid : Prop := Claim7.holds Tryz.pinned (.plain (OpenSpec.ofChange fnExactNormalSpec)) fnExactNormalCard

/-- THE TIED CARD OF 'laws.FnExactParse'. -/
def fnExactParseCard : Claim7 := { stood := { row := fnExactParseRow, standIns := [], harness := (true, "df54dde8c73742471dcaf805be657cf1cbaaf7d6100748731a7c4ac1cc6d2e18"), looks := true }, kinds := [], alts := [], laidByText := true, laidKinds := [.data, .data, .data, .data, .sentinel, .sentinel, .pinned], laidTests := true, laidLooks := .later }
def FnExactParseCardSaid : Prop := Claim7.holds Tryz.pinned (.plain (OpenSpec.ofChange fnExactParseSpec)) fnExactParseCard

/-- THE SECOND FORM's CARD OF 'laws.FnParseTokens'. -/
def fnParseTokensUptoCard : Claim7 := { stood := { row := fnParseTokensUptoRow, standIns := [], harness := (true, "df54dde8c73742471dcaf805be657cf1cbaaf7d6100748731a7c4ac1cc6d2e18"), looks := true }, kinds := [], alts := [], laidByText := true, laidKinds := [.data, .data, .data, .sentinel, .sentinel], laidTests := true, laidLooks := .later }
def FnParseTokensUptoCardSaid : Prop := Claim7.holds Tryz.pinned (.plain (OpenSpec.upto fnParseTokensSpec)) fnParseTokensUptoCard

/-- THE SECOND FORM's CARD OF 'laws.FnExactParseTokens'. -/
def fnExactParseTokensUptoCard : Claim7 := { stood := { row := fnExactParseTokensUptoRow, standIns := [], harness := (true, "df54dde8c73742471dcaf805be657cf1cbaaf7d6100748731a7c4ac1cc6d2e18"), looks := true }, kinds := [], alts := [], laidByText := true, laidKinds := [.data, .data, .data, .sentinel, .sentinel], laidTests := true, laidLooks := .later }
def FnExactParseTokensUptoCardSaid : Prop := Claim7.holds Tryz.pinned (.plain (OpenSpec.upto fnExactParseTokensSpec)) fnExactParseTokensUptoCard

/-- THE SECOND FORM's CARD OF 'laws.FnCommand'. -/
def fnCommandUptoCard : Claim7 := { stood := { row := fnCommandUptoRow, standIns := [], harness := (true, "df54dde8c73742471dcaf805be657cf1cbaaf7d6100748731a7c4ac1cc6d2e18"), looks := true }, kinds := [], alts := [], laidByText := true, laidKinds := [.data, .data, .data, .data, .sentinel, .sentinel, .pinned], laidTests := true, laidLooks := .later }
def FnCommandUptoCardSaid : Prop := Claim7.holds Tryz.pinned (.plain (OpenSpec.upto fnCommandSpec)) fnCommandUptoCard

/-- THE SECOND FORM's CARD OF 'laws.FnExactNormal'. -/
def fnExactNormalUptoCard : Claim7 := { stood := { row := fnExactNormalUptoRow, standIns := [], harness := (true, "df54dde8c73742471dcaf805be657cf1cbaaf7d6100748731a7c4ac1cc6d2e18"), looks := true }, kinds := [], alts := [], laidByText := true, laidKinds := [.data, .data, .data, .data, .sentinel, .sentinel, .pinned], laidTests := true, laidLooks := .later }
def FnExactNormalUptoCardSaid : Prop := Claim7.holds Tryz.pinned (.plain (OpenSpec.upto fnExactNormalSpec)) fnExactNormalUptoCard

/-- THE SECOND FORM's CARD OF 'laws.FnExactParse'. -/
def fnExactParseUptoCard : Claim7 := { stood := { row := fnExactParseUptoRow, standIns := [], harness := (true, "df54dde8c73742471dcaf805be657cf1cbaaf7d6100748731a7c4ac1cc6d2e18"), looks := true }, kinds := [], alts := [], laidByText := true, laidKinds := [.data, .data, .data, .data, .sentinel, .sentinel, .pinned], laidTests := true, laidLooks := .later }
def FnExactParseUptoCardSaid : Prop := Claim7.holds Tryz.pinned (.plain (OpenSpec.upto fnExactParseSpec)) fnExactParseUptoCard
end Rows
end Go.Proofs.YtkeglpnnedflnaaGreatDoor
