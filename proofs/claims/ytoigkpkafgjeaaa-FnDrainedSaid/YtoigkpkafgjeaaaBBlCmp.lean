/-
  The closure that compares two boxes by their names.
  No condition. Walked by hand.
-/
import Derived.Test.YtoigkpkafgjeaaaBBxPerf
import Derived.Test.YtoigkpkafgjeaaaBBmFr
import Derived.Shelf.SlSortCmp.SmallK
set_option linter.unusedSimpArgs false
set_option linter.unusedVariables false
namespace Go.Proofs.Ytoigkpkafgjeaaa
open Go.ChangeShapes Go.WideShapes Go.ChangeAt Go.RowKit Go.Joins Go.Deep
open GoRep (rep bulk)
end Go.Proofs.Ytoigkpkafgjeaaa
