/-
  The walk of the law FnExactLineEnd.
  No condition but what the arguments' cells hold. Printed by vcgen.py.
-/
import Derived.Test.YtkompmgleojmlaaDoorEBlSz
import Derived.Test.YtkompmgleojmlaaDoorEBlTo
import Derived.Test.YtkompmgleojmlaaDoorEEqB
import Derived.Test.YtkompmgleojmlaaDoorEBlLine2
import Derived.Test.YtkompmgleojmlaaDoorEBlLine3
set_option linter.unusedSimpArgs false
set_option linter.unusedVariables false
set_option maxRecDepth 100000
set_option maxHeartbeats 4000000
namespace Go.Proofs.YtkompmgleojmlaaDoor
open Go.ChangeShapes Go.WideShapes Go.ChangeAt Go.RowKit Go.Joins Go.Deep
open GoRep (rep bulk)

open GoMark (mrk cnt mrkI cntI)
theorem b_l_FnExactLineEnd (x0 : ByteArray) : BCalls Tryd.prog 3 [.c (.str x0)] (.c (.bool true)) [] := by
  refine bc0 [e_s_LineEnd, e_i_LineEnd] [] [] [] L0 Tryd.func3 (fun hwf => ?_)
  refine Eq.mpr (β := (True ∧ (True ∧ (True ∧ (True ∧ (bif (gtI ((ByteArray.size x0 : Nat) : Int) 1048576) then (True ∧ (rB true true)) else (True ∧ ((ByteArray.size x0 ≤ 1048576 ∧ true = true) ∧ (True ∧ (True ∧ ((ByteArray.size x0 ≤ 1048576 ∧ true = true) ∧ (True ∧ (True ∧ (True ∧ (True ∧ (bif (neI (lineF x0 0) (lineF x0 0)) then (True ∧ (rB false true)) else (True ∧ (rB true true)))))))))))))))))) (by kernel_rfl) ?_
  simp only [forall_eq, not_true, not_false, false_implies, true_implies, Bool.not_true, Bool.not_false, SIA, eq_self]
  repeat' (with_reducible first | exact trivial | apply And.intro | intro _)
  all_goals first
    | (with_reducible trivial)
    | omega
    | contradiction
def e_l_FnExactLineEnd : Entry Tryd.prog := ⟨3, [.v tyStr], fun x => True, fun x => .c (.bool true), fun _ => [], fun x hx => b_l_FnExactLineEnd x.1, Tryd.call3⟩
theorem walk_FnExactLineEnd (w : World) (hgl : Glob w []) (x0 : ByteArray) (hx0 : x0.size ≤ maxLen) : Calls Tryd.prog 3 #[.string x0] w (RV (.bool (true)) w) :=
  RV.of_b (b_l_FnExactLineEnd x0) hgl (⟨_, _, rfl, ⟨rfl, hx0⟩, rfl⟩) (fun _ _ _ h => h)
end Go.Proofs.YtkompmgleojmlaaDoor
