/-
  DERIVED. GIVEN WITH THE SEED: THE CARDS: each row of YtoigkpkafgjeaaaGreatDoorRows.lean that lists a variable, with what it lists TIED to the program's text (the seventh form; the later family's looks); each row that meets fmt, with fmt's text TOLD by the authors' own Lean function (tested against real Go, not proved from fmt's source: count such statements apart). THE CARD IS WHAT COUNTS. Prove the row's statement (the work); the ties are given (YtoigkpkafgjeaaaGreatDoorTie.lean); close each card by the builder's one call (the guide's Derived/Test/ToyasCard.lean, 'card_holds'). Laid BY PROGRAM, IN A SANDBOX (cutbox-door.mjs). By AI agents, Wed Nov 11 2026. No macro, syntax, notation, axiom, sorry.
-/
import Derived.Test.YtoigkpkafgjeaaaGreatDoorRows
import GoSem.ClaimSeven
namespace Go.Proofs.YtoigkpkafgjeaaaGreatDoor
namespace Rows

/-- THE TIED CARD OF 'laws.FnOut'. -/
def fnOutCard : Claim7 := { stood := { row := fnOutRow, standIns := [], harness := (true, "558c9cdcc295edc57261e17f45434f331d57bd61e59c244de12b211e615d2c50"), looks := false }, kinds := [], alts := [], laidByText := true, laidKinds := [.data, .data, .data], laidTests := true, laidLooks := .later }
def FnOutCardSaid : Prop := Claim7.holds Tryz.pinned (.plain (OpenSpec.ofChange fnOutSpec)) fnOutCard

/-- THE SECOND FORM's CARD OF 'laws.FnOut'. -/
def fnOutUptoCard : Claim7 := { stood := { row := fnOutUptoRow, standIns := [], harness := (true, "558c9cdcc295edc57261e17f45434f331d57bd61e59c244de12b211e615d2c50"), looks := false }, kinds := [], alts := [], laidByText := true, laidKinds := [.data, .data, .data], laidTests := true, laidLooks := .later }
def FnOutUptoCardSaid : Prop := Claim7.holds Tryz.pinned (.plain (OpenSpec.upto fnOutSpec)) fnOutUptoCard
end Rows
end Go.Proofs.YtoigkpkafgjeaaaGreatDoor
