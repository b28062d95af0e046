/-
  What a row holds, for a loop's head.
  Plain: no program. No condition.
-/
import Derived.Test.YtbpapaponnfagaaMBmTy
namespace Go.Proofs.Ytbpapaponnfagaa
open Go.ChangeShapes Go.WideShapes Go.ChangeAt Go.RowKit Go.Joins Go.Deep
end Go.Proofs.Ytbpapaponnfagaa
