import Derived.Test.YtafhbjjcpncfnaaGreatIBmTy
namespace Go.Proofs.YtafhbjjcpncfnaaGreat
open Go.ChangeShapes Go.WideShapes Go.ChangeAt Go.RowKit Go.Joins Go.Deep
end Go.Proofs.YtafhbjjcpncfnaaGreat
