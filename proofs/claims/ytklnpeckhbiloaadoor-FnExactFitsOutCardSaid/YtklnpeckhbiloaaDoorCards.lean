/-
  DERIVED. GIVEN WITH THE SEED: THE CARDS: each row of YtklnpeckhbiloaaDoorRows.lean that lists a variable, with what it lists TIED to the program's text (the seventh form; the later family's looks); each row that meets fmt, with fmt's text TOLD by the authors' own Lean function (tested against real Go, not proved from fmt's source: count such statements apart). THE CARD IS WHAT COUNTS. Prove the row's statement (the work); the ties are given (YtklnpeckhbiloaaDoorTie.lean); close each card by the builder's one call (the guide's Derived/Test/ToyasCard.lean, 'card_holds'). Laid BY PROGRAM, IN A SANDBOX (cutbox-door.mjs). By AI agents, Wed Nov 11 2026. No macro, syntax, notation, axiom, sorry.
-/
import Derived.Test.YtklnpeckhbiloaaDoorRows
import GoSem.ClaimSeven
namespace Go.Proofs.YtklnpeckhbiloaaDoor
namespace Rows

/-- THE TIED CARD OF 'laws.FnExactFitsOut'. -/
def fnExactFitsOutCard : Claim7 := { stood := { row := fnExactFitsOutRow, standIns := [], harness := (true, "d983e8d642dd7ade63264f1d564ef8e49ad142d7f9cc0400e547efb4b4989da7"), looks := false }, kinds := [], alts := [], laidByText := true, laidKinds := [.data, .data, .data], laidTests := true, laidLooks := .later }
def FnExactFitsOutCardSaid : Prop := Claim7.holds Tryd.pinned (.plain (OpenSpec.ofChange fnExactFitsOutSpec)) fnExactFitsOutCard

/-- THE TIED CARD OF 'laws.FnExactPutOut'. -/
def fnExactPutOutCard : Claim7 := { stood := { row := fnExactPutOutRow, standIns := [], harness := (true, "d983e8d642dd7ade63264f1d564ef8e49ad142d7f9cc0400e547efb4b4989da7"), looks := false }, kinds := [], alts := [], laidByText := true, laidKinds := [.data, .data, .data], laidTests := true, laidLooks := .later }
def FnExactPutOutCardSaid : Prop := Claim7.holds Tryd.pinned (.plain (OpenSpec.ofChange fnExactPutOutSpec)) fnExactPutOutCard

/-- THE SECOND FORM's CARD OF 'laws.FnExactFitsOut'. -/
def fnExactFitsOutUptoCard : Claim7 := { stood := { row := fnExactFitsOutUptoRow, standIns := [], harness := (true, "d983e8d642dd7ade63264f1d564ef8e49ad142d7f9cc0400e547efb4b4989da7"), looks := false }, kinds := [], alts := [], laidByText := true, laidKinds := [.data, .data, .data], laidTests := true, laidLooks := .later }
def FnExactFitsOutUptoCardSaid : Prop := Claim7.holds Tryd.pinned (.plain (OpenSpec.upto fnExactFitsOutSpec)) fnExactFitsOutUptoCard

/-- THE SECOND FORM's CARD OF 'laws.FnExactPutOut'. -/
def fnExactPutOutUptoCard : Claim7 := { stood := { row := fnExactPutOutUptoRow, standIns := [], harness := (true, "d983e8d642dd7ade63264f1d564ef8e49ad142d7f9cc0400e547efb4b4989da7"), looks := false }, kinds := [], alts := [], laidByText := true, laidKinds := [.data, .data, .data], laidTests := true, laidLooks := .later }
def FnExactPutOutUptoCardSaid : Prop := Claim7.holds Tryd.pinned (.plain (OpenSpec.upto fnExactPutOutSpec)) fnExactPutOutUptoCard
end Rows
end Go.Proofs.YtklnpeckhbiloaaDoor
