/-
  The contract of the law's function markText: the letter m and the decimal digits of a number.
  No condition.
-/
import Derived.Test.YtklofnnecljajaaGreatTypes
import Derived.Laws.BytesArg
namespace Go.Proofs.YtklofnnecljajaaGreat
open Go.ChangeShapes Go.WideShapes Go.ChangeAt Go.RowKit Go.Joins Go.Deep
open GoRep (rep bulk)
open GoMark (mrk cnt mrkI cntI)
end Go.Proofs.YtklofnnecljajaaGreat
