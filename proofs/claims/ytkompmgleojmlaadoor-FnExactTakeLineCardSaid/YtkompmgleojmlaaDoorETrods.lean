/-
  What the laws' arguments hold, read as data, as Lean values: for each type.
  No condition. Printed by gen_exact.py.
-/
import Derived.Test.YtkompmgleojmlaaDoorETypes
import Derived.Test.YtkompmgleojmlaaDoorETrod
namespace Go.Proofs.YtkompmgleojmlaaDoor
open Go.ChangeShapes Go.WideShapes Go.ChangeAt Go.RowKit Go.Joins Go.Deep
open GoRep (rep bulk)
theorem trod_In : TrodRep GIn Tryd.prog 25 :=
  trodRep_struct Tryd.underlying25 (by kernel_rfl) (fieldsRep_cons (trodRep_str Tryd.underlying9) rfl (by kernel_rfl) (fieldsRep_one (trodRep_bool Tryd.underlying4) rfl (by kernel_rfl)))
end Go.Proofs.YtkompmgleojmlaaDoor
