/-
  What a row holds, for a loop's head.
  Plain: no program. No condition.
-/
import Derived.Test.YtoigkpkafgjeaaaBBmTy
namespace Go.Proofs.Ytoigkpkafgjeaaa
open Go.ChangeShapes Go.WideShapes Go.ChangeAt Go.RowKit Go.Joins Go.Deep
end Go.Proofs.Ytoigkpkafgjeaaa
