/-
  The laws' functions toX.
  No condition but what the arguments' cells hold. Printed by vcgen.py.
-/
import Derived.Test.YtkompmgleojmlaaDoorELawA
set_option linter.unusedSimpArgs false
set_option linter.unusedVariables false
set_option maxRecDepth 100000
set_option maxHeartbeats 4000000
namespace Go.Proofs.YtkompmgleojmlaaDoor
open Go.ChangeShapes Go.WideShapes Go.ChangeAt Go.RowKit Go.Joins Go.Deep
open GoRep (rep bulk)

theorem b_l_toIn (a : GIn) : BCalls Tryd.prog 9 [.ag [.str a.1, .bool a.2]] (.ag [.str a.1, .bool a.2]) [] := by
  refine bc0 [] [] [] [] L0 Tryd.func9 (fun hwf => ?_)
  refine Eq.mpr (β := (True ∧ (True ∧ (True ∧ (True ∧ (True ∧ (True ∧ (True ∧ (True ∧ (True ∧ (True ∧ (True ∧ (True ∧ (True ∧ ((((true = true ∧ leC (.str a.1) (.str a.1)) ∧ (true = true ∧ leC (.bool a.2) (.bool a.2)) ∧ True)) ∧ true = true))))))))))))))) (by kernel_rfl) ?_
  simp only [SIA, eq_self]
  repeat' (first | apply And.intro | intro _)
  all_goals (first | trivial | omega)
def e_l_toIn : Entry Tryd.prog := ⟨9, [.s tyIn], fun x => True, fun x => .ag [.str x.1.1, .bool x.1.2], fun _ => [], fun x hx => b_l_toIn x.1, Tryd.call9⟩
end Go.Proofs.YtkompmgleojmlaaDoor
