/-
  slices.SortFunc over boxes by their names, by the library's contract.
  No condition but what the arguments' cells hold.
-/
import Derived.Test.YtoigkpkafgjeaaaGreatDoorOBlBoxM
import Derived.Test.YtoigkpkafgjeaaaGreatDoorOBlCmp
import Derived.Shelf.SlSortCmp.SmallK
import Derived.Shelf.SlSortCmp.NoneTotal
import Derived.Shelf.Small.Bits
set_option linter.unusedSimpArgs false
set_option linter.unusedVariables false
namespace Go.Proofs.YtoigkpkafgjeaaaGreatDoor
open Go.ChangeShapes Go.WideShapes Go.ChangeAt Go.RowKit Go.Joins Go.Deep
open GoRep (rep bulk)
end Go.Proofs.YtoigkpkafgjeaaaGreatDoor
