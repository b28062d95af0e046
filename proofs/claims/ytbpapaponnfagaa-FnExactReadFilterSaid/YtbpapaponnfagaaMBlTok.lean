/-
  Tokens and their texts.
  No condition but what the arguments' cells hold. Printed by vcgen.py.
-/
import Derived.Test.YtbpapaponnfagaaMBlPart
import Derived.Test.YtbpapaponnfagaaMNumLaw
import Derived.Test.YtbpapaponnfagaaMLawA
set_option linter.unusedSimpArgs false
set_option linter.unusedVariables false
set_option maxRecDepth 100000
set_option maxHeartbeats 4000000
namespace Go.Proofs.Ytbpapaponnfagaa
open Go.ChangeShapes Go.WideShapes Go.ChangeAt Go.RowKit Go.Joins Go.Deep
open GoRep (rep bulk)

theorem leB_rowU8 {x y : List Int} {v c : Nat} : leB (.row (.int .u8) x v c none) (.row (.int .u8) y v c none) = (x = y) := leB_row (t := .int .u8)
def atCh (x : Int) : Prop := (33 ≤ x ∧ x ≤ 126) ∧ ((x ≠ 40 ∧ x ≠ 41) ∧ (x ≠ 123 ∧ (x ≠ 34 ∧ x ≠ 92)))
instance (x : Int) : Decidable (atCh x) := by unfold atCh; infer_instance
def quCh (x : Int) : Prop := 32 ≤ x ∧ x ≤ 126
instance (x : Int) : Decidable (quCh x) := by unfold quCh; infer_instance
def atomK (s : ByteArray) : GToken := (1, s)
def openK  : GToken := (3, (⟨#[]⟩ : ByteArray))
def closeK  : GToken := (4, (⟨#[]⟩ : ByteArray))
end Go.Proofs.Ytbpapaponnfagaa
