/-
  DERIVED. GIVEN WITH THE SEED: THE CARDS: each row of YtbpapaponnfagaaGreatDoorRows.lean that lists a variable, with what it lists TIED to the program's text (the seventh form; the later family's looks); each row that meets fmt, with fmt's text TOLD by the authors' own Lean function (tested against real Go, not proved from fmt's source: count such statements apart). THE CARD IS WHAT COUNTS. Prove the row's statement (the work); the ties are given (YtbpapaponnfagaaGreatDoorTie.lean); close each card by the builder's one call (the guide's Derived/Test/ToyasCard.lean, 'card_holds'). Laid BY PROGRAM, IN A SANDBOX (cutbox-door.mjs). By AI agents, Wed Nov 11 2026. No macro, syntax, notation, axiom, sorry.
-/
import Derived.Test.YtbpapaponnfagaaGreatDoorRows
import GoSem.ClaimSeven
namespace Go.Proofs.YtbpapaponnfagaaGreatDoor
namespace Rows

/-- THE TIED CARD OF 'laws.FnLines'. -/
def fnLinesCard : Claim7 := { stood := { row := fnLinesRow, standIns := [], harness := (true, "4da3b20fa1c06c4cefb3798f3645aff9897bc192cce327ab3159cf1285e54674"), looks := true }, kinds := [], alts := [], laidByText := true, laidKinds := [.data, .data, .data, .sentinel, .sentinel], laidTests := true, laidLooks := .later }
def FnLinesCardSaid : Prop := Claim7.holds Tryz.pinned (.plain (OpenSpec.ofChange fnLinesSpec)) fnLinesCard

/-- THE TIED CARD OF 'laws.FnParseTokens'. -/
def fnParseTokensCard : Claim7 := { stood := { row := fnParseTokensRow, standIns := [], harness := (true, "4da3b20fa1c06c4cefb3798f3645aff9897bc192cce327ab3159cf1285e54674"), looks := true }, kinds := [], alts := [], laidByText := true, laidKinds := [.data, .data, .data, .sentinel, .sentinel], laidTests := true, laidLooks := .later }
def FnParseTokensCardSaid : Prop := Claim7.holds Tryz.pinned (.plain (OpenSpec.ofChange fnParseTokensSpec)) fnParseTokensCard

/-- THE TIED CARD OF 'laws.FnExactParseTokens'. -/
def fnExactParseTokensCard : Claim7 := { stood := { row := fnExactParseTokensRow, standIns := [], harness := (true, "4da3b20fa1c06c4cefb3798f3645aff9897bc192cce327ab3159cf1285e54674"), looks := true }, kinds := [], alts := [], laidByText := true, laidKinds := [.data, .data, .data, .sentinel, .sentinel], laidTests := true, laidLooks := .later }
def FnExactParseTokensCardSaid : Prop := Claim7.holds Tryz.pinned (.plain (OpenSpec.ofChange fnExactParseTokensSpec)) fnExactParseTokensCard

/-- THE TIED CARD OF 'laws.FnCommand'. -/
def fnCommandCard : Claim7 := { stood := { row := fnCommandRow, standIns := [], harness := (true, "4da3b20fa1c06c4cefb3798f3645aff9897bc192cce327ab3159cf1285e54674"), looks := true }, kinds := [], alts := [], laidByText := true, laidKinds := [.data, .data, .data, .data, .sentinel, .sentinel, .pinned], laidTests := true, laidLooks := .later }
def FnCommandCardSaid : Prop := Claim7.holds Tryz.pinned (.plain (OpenSpec.ofChange fnCommandSpec)) fnCommandCard

/-- THE TIED CARD OF 'laws.FnExactNormal'. -/
def fnExactNormalCard : Claim7 := { stood := { row := fnExactNormalRow, standIns := [], harness := (true, "4da3b20fa1c06c4cefb3798f3645aff9897bc192cce327ab3159cf1285e54674"), looks := true }, kinds := [], alts := [], laidByText := true, laidKinds := [.data, .data, .data, .data, .sentinel, .sentinel, .pinned], laidTests := true, laidLooks := .later }
def FnExactNormalCardSaid : Prop := Claim7.holds Tryz.pinned (.plain (OpenSpec.ofChange fnExactNormalSpec)) fnExactNormalCard

/-- THE TIED CARD OF 'laws.FnExactParse'. -/
def fnExactParseCard : Claim7 := { stood := { row := fnExactParseRow, standIns := [], harness := (true, "4da3b20fa1c06c4cefb3798f3645aff9897bc192cce327ab3159cf1285e54674"), looks := true }, kinds := [], alts := [], laidByText := true, laidKinds := [.data, .data, .data, .data, .sentinel, .sentinel, .pinned], laidTests := true, laidLooks := .later }
def FnExactParseCardSaid : Prop := Claim7.holds Tryz.pinned (.plain (OpenSpec.ofChange fnExactParseSpec)) fnExactParseCard

/-- THE TIED CARD OF 'laws.FnParse'. -/
def fnParseCard : Claim7 := { stood := { row := fnParseRow, standIns := [], harness := (true, "4da3b20fa1c06c4cefb3798f3645aff9897bc192cce327ab3159cf1285e54674"), looks := true }, kinds := [], alts := [], laidByText := true, laidKinds := [.data, .data, .data, .data, .sentinel, .sentinel, .pinned], laidTests := true, laidLooks := .later }
def FnParseCardSaid : Prop := Claim7.holds Tryz.pinned (.plain (OpenSpec.ofChange fnParseSpec)) fnParseCard

/-- THE SECOND FORM's CARD OF 'laws.FnLines'. -/
def fnLinesUptoCard : Claim7 := { stood := { row := fnLinesUptoRow, standIns := [], harness := (true, "4da3b20fa1c06c4cefb3798f3645aff9897bc192cce327ab3159cf1285e54674"), looks := true }, kinds := [], alts := [], laidByText := true, laidKinds := [.data, .data, .data, .sentinel, .sentinel], laidTests := true, laidLooks := .later }
def FnLinesUptoCardSaid : Prop := Claim7.holds Tryz.pinned (.plain (OpenSpec.upto fnLinesSpec)) fnLinesUptoCard

/-- THE SECOND FORM's CARD OF 'laws.FnParseTokens'. -/
def fnParseTokensUptoCard : Claim7 := { stood := { row := fnParseTokensUptoRow, standIns := [], harness := (true, "4da3b20fa1c06c4cefb3798f3645aff9897bc192cce327ab3159cf1285e54674"), looks := true }, kinds := [], alts := [], laidByText := true, laidKinds := [.data, .data, .data, .sentinel, .sentinel], laidTests := true, laidLooks := .later }
def FnParseTokensUptoCardSaid : Prop := Claim7.holds Tryz.pinned (.plain (OpenSpec.upto fnParseTokensSpec)) fnParseTokensUptoCard

/-- THE SECOND FORM's CARD OF 'laws.FnExactParseTokens'. -/
def fnExactParseTokensUptoCard : Claim7 := { stood := { row := fnExactParseTokensUptoRow, standIns := [], harness := (true, "4da3b20fa1c06c4cefb3798f3645aff9897bc192cce327ab3159cf1285e54674"), looks := true }, kinds := [], alts := [], laidByText := true, laidKinds := [.data, .data, .data, .sentinel, .sentinel], laidTests := true, laidLooks := .later }
def FnExactParseTokensUptoCardSaid : Prop := Claim7.holds Tryz.pinned (.plain (OpenSpec.upto fnExactParseTokensSpec)) fnExactParseTokensUptoCard

/-- THE SECOND FORM's CARD OF 'laws.FnCommand'. -/
def fnCommandUptoCard : Claim7 := { stood := { row := fnCommandUptoRow, standIns := [], harness := (true, "4da3b20fa1c06c4cefb3798f3645aff9897bc192cce327ab3159cf1285e54674"), looks := true }, kinds := [], alts := [], laidByText := true, laidKinds := [.data, .data, .data, .data, .sentinel, .sentinel, .pinned], laidTests := true, laidLooks := .later }
def FnCommandUptoCardSaid : Prop := Claim7.holds Tryz.pinned (.plain (OpenSpec.upto fnCommandSpec)) fnCommandUptoCard

/-- THE SECOND FORM's CARD OF 'laws.FnExactNormal'. -/
def fnExactNormalUptoCard : Claim7 := { stood := { row := fnExactNormalUptoRow, standIns := [], harness := (true, "4da3b20fa1c06c4cefb3798f3645aff9897bc192cce327ab3159cf1285e54674"), looks := true }, kinds := [], alts := [], laidByText := true, laidKinds := [.data, .data, .data, .data, .sentinel, .sentinel, .pinned], laidTests := true, laidLooks := .later }
def FnExactNormalUptoCardSaid : Prop := Claim7.holds Tryz.pinned (.plain (OpenSpec.upto fnExactNormalSpec)) fnExactNormalUptoCard

/-- THE SECOND FORM's CARD OF 'laws.FnExactParse'. -/
def fnExactParseUptoCard : Claim7 := { stood := { row := fnExactParseUptoRow, standIns := [], harness := (true, "4da3b20fa1c06c4cefb3798f3645aff9897bc192cce327ab3159cf1285e54674"), looks := true }, kinds := [], alts := [], laidByText := true, laidKinds := [.data, .data, .data, .data, .sentinel, .sentinel, .pinned], laidTests := true, laidLooks := .later }
def FnExactParseUptoCardSaid : Prop := Claim7.holds Tryz.pinned (.plain (OpenSpec.upto fnExactParseSpec)) fnExactParseUptoCard

/-- THE SECOND FORM's CARD OF 'laws.FnParse'. -/
def fnParseUptoCard : Claim7 := { stood := { row := fnParseUptoRow, standIns := [], harness := (true, "4da3b20fa1c06c4cefb3798f3645aff9897bc192cce327ab3159cf1285e54674"), looks := true }, kinds := [], alts := [], laidByText := true, laidKinds := [.data, .data, .data, .data, .sentinel, .sentinel, .pinned], laidTests := true, laidLooks := .later }
def FnParseUptoCardSaid : Prop := Claim7.holds Tryz.pinned (.plain (OpenSpec.upto fnParseSpec)) fnParseUptoCard
end Rows
end Go.Proofs.YtbpapaponnfagaaGreatDoor
