/-
  The program's Upper: capital letters of a text.
  No condition but that the text is no longer than a text may be. Walked by hand.
-/
import Derived.Test.YtoigkpkafgjeaaaBBlOk
import Derived.Test.YtoigkpkafgjeaaaBRep
import Derived.Laws.IdiomStrings
import Derived.Test.YtoigkpkafgjeaaaBBmTy
set_option linter.unusedSimpArgs false
set_option linter.unusedVariables false
namespace Go.Proofs.Ytoigkpkafgjeaaa
open Go.ChangeShapes Go.WideShapes Go.ChangeAt Go.RowKit Go.Joins Go.Deep
open GoRep (rep bulk)
end Go.Proofs.Ytoigkpkafgjeaaa
