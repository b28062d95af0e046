/-
  Sets and their texts.
  No condition but what the arguments' cells hold. Printed by vcgen.py.
-/
import Derived.Test.YtoigkpkafgjeaaaABlTok
set_option linter.unusedSimpArgs false
set_option linter.unusedVariables false
set_option maxRecDepth 100000
set_option maxHeartbeats 4000000
namespace Go.Proofs.Ytoigkpkafgjeaaa
open Go.ChangeShapes Go.WideShapes Go.ChangeAt Go.RowKit Go.Joins Go.Deep
open GoRep (rep bulk)

theorem nthS_get {l : List ByteArray} {i : Nat} (h : i < l.length) : l[i]? = some (nth_String l i) := nth_getElem? (t := tyStr) h
end Go.Proofs.Ytoigkpkafgjeaaa
