/-
  Several texts in one.
-/
import Derived.Test.YtklnpeckhbiloaaGreatDoorKRep
import Derived.Test.YtklnpeckhbiloaaGreatDoorKTypes
namespace Go.Proofs.YtklnpeckhbiloaaGreatDoor
open Go.ChangeShapes Go.WideShapes Go.ChangeAt Go.RowKit Go.Joins Go.Deep
open GoRep (rep bulk)

section
variable {P : Program} {t : TypeId}
end
end Go.Proofs.YtklnpeckhbiloaaGreatDoor
namespace Go.Proofs.YtklnpeckhbiloaaGreatDoor
open Go.ChangeShapes Go.WideShapes Go.ChangeAt Go.RowKit Go.Joins Go.Deep
open GoRep (rep bulk)
end Go.Proofs.YtklnpeckhbiloaaGreatDoor
