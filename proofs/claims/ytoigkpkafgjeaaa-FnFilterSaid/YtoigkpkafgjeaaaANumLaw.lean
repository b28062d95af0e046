/-
  Numbers in decimal, ends of lines, literals: plain facts.
  Plain: no program. No condition.
-/
import Derived.Test.YtoigkpkafgjeaaaABmTy
import Derived.Lib.ItoaNum
import Derived.Lib.AtoiAll
import Derived.Lib.LastIndexByte
import Derived.Lib.Index
import Derived.Lib.IndexMore
import Derived.Lib.Strings
set_option linter.unusedSimpArgs false
set_option linter.unusedVariables false
namespace Go.Proofs.Ytoigkpkafgjeaaa
/-- the two bytes of a line's end stand at i -/
def two (s : ByteArray) (i : Nat) : Prop := i + 1 < s.size ∧ byteAt s i = 13 ∧ byteAt s (i + 1) = 10
instance (s : ByteArray) (i : Nat) : Decidable (two s i) := by unfold two; infer_instance
theorem w64i {x : Int} (h0 : -9223372036854775808 ≤ x) (h1 : x ≤ 9223372036854775807) : IntKind.wrap .i64 x = x := IntWalk.i64_in _ (by omega)
end Go.Proofs.Ytoigkpkafgjeaaa
