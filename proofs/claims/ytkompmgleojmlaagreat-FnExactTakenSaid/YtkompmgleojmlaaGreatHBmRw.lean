import Derived.Test.YtkompmgleojmlaaGreatHBmTy
namespace Go.Proofs.YtkompmgleojmlaaGreat
open Go.ChangeShapes Go.WideShapes Go.ChangeAt Go.RowKit Go.Joins Go.Deep
end Go.Proofs.YtkompmgleojmlaaGreat
