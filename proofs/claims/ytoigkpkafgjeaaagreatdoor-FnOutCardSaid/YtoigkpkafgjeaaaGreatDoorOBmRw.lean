/-
  What a row holds, for a loop's head.
  Plain: no program. No condition.
-/
import Derived.Test.YtoigkpkafgjeaaaGreatDoorOBmTy
namespace Go.Proofs.YtoigkpkafgjeaaaGreatDoor
open Go.ChangeShapes Go.WideShapes Go.ChangeAt Go.RowKit Go.Joins Go.Deep
end Go.Proofs.YtoigkpkafgjeaaaGreatDoor
