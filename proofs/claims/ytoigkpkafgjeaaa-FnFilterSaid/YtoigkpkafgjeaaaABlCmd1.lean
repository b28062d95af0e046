/-
  Flags and their texts.
  No condition but what the arguments' cells hold. Printed by vcgen.py.
-/
import Derived.Test.YtoigkpkafgjeaaaABlSetT
set_option linter.unusedSimpArgs false
set_option linter.unusedVariables false
set_option maxRecDepth 100000
set_option maxHeartbeats 4000000
namespace Go.Proofs.Ytoigkpkafgjeaaa
open Go.ChangeShapes Go.WideShapes Go.ChangeAt Go.RowKit Go.Joins Go.Deep
open GoRep (rep bulk)

def bitB (b : Int) (k : Nat) : Bool := eqI (IntKind.wrap .i64 (((BitVec.ofInt (IntKind.bits .i64) (shrI .i64 b ((k : Nat) : Int)) &&& BitVec.ofInt (IntKind.bits .i64) 1).toNat : Nat))) 1
def namesN (ws : List ByteArray) (b : Int) : Nat → List ByteArray
  | 0 => []
  | k + 1 => if bitB b k = true then namesN ws b k ++ [nth_String ws k] else namesN ws b k
theorem names_y {ws : List ByteArray} {b : Int} {k : Nat} (h : bitB b k = true) : namesN ws b (k + 1) = namesN ws b k ++ [nth_String ws k] := if_pos h
theorem names_n {ws : List ByteArray} {b : Int} {k : Nat} (h : bitB b k = false) : namesN ws b (k + 1) = namesN ws b k := if_neg (by rw [h]; decide)
theorem names_len (ws : List ByteArray) (b : Int) : ∀ k, (namesN ws b k).length ≤ k
  | 0 => Nat.le_refl _
  | k + 1 => by
    have := names_len ws b k
    unfold namesN
    split
    · rw [List.length_append, List.length_singleton]; omega
    · omega
theorem wu64 {k : Nat} (h : k ≤ 1048576) : IntKind.wrap .u64 ((k : Nat) : Int) = ((k : Nat) : Int) := by
  have e : IntKind.wrap .u64 ((k : Nat) : Int) = ((k : Nat) : Int) % 2 ^ 64 := rfl
  rw [e]
  omega
end Go.Proofs.Ytoigkpkafgjeaaa
