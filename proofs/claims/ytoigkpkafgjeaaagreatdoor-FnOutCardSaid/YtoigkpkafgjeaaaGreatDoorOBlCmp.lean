/-
  The closure that compares two boxes by their names.
  No condition. Walked by hand.
-/
import Derived.Test.YtoigkpkafgjeaaaGreatDoorOBxPerf
import Derived.Test.YtoigkpkafgjeaaaGreatDoorOBmFr
import Derived.Shelf.SlSortCmp.SmallK
set_option linter.unusedSimpArgs false
set_option linter.unusedVariables false
namespace Go.Proofs.YtoigkpkafgjeaaaGreatDoor
open Go.ChangeShapes Go.WideShapes Go.ChangeAt Go.RowKit Go.Joins Go.Deep
open GoRep (rep bulk)
end Go.Proofs.YtoigkpkafgjeaaaGreatDoor
