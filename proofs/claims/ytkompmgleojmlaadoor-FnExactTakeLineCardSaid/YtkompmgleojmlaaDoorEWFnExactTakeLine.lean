/-
  The walk of the law FnExactTakeLine.
  No condition but what the arguments' cells hold. Printed by vcgen.py.
-/
import Derived.Test.YtkompmgleojmlaaDoorEBlSz
import Derived.Test.YtkompmgleojmlaaDoorEBlTo
import Derived.Test.YtkompmgleojmlaaDoorEEqB
import Derived.Test.YtkompmgleojmlaaDoorEBlTakeL
set_option linter.unusedSimpArgs false
set_option linter.unusedVariables false
set_option maxRecDepth 100000
set_option maxHeartbeats 4000000
namespace Go.Proofs.YtkompmgleojmlaaDoor
open Go.ChangeShapes Go.WideShapes Go.ChangeAt Go.RowKit Go.Joins Go.Deep
open GoRep (rep bulk)

open GoMark (mrk cnt mrkI cntI)
theorem eqSelf_In (x : GIn) : eqT_In x x = true := eqT_In_true.2 rfl
theorem b_l_FnExactTakeLine (x0 : GIn) : BCalls Tryd.prog 4 [.ag [.str x0.1, .bool x0.2]] (.c (.bool true)) [] := by
  refine bc0 [e_l_szIn, e_l_toIn, e_s_TakeLine, e_i_TakeLine, e_l_eqIn] [] [] [] L0 Tryd.func4 (fun hwf => ?_)
  refine Eq.mpr (β := (T5 ((szP 1048576 ∧ true = true) ∧ (T3 (bif (ltI (szT 1048576 (bulk x0)) 0) then (True ∧ (rB true true)) else (True ∧ ((True ∧ true = true) ∧ ((True ∧ true = true) ∧ (T9 ((True ∧ true = true) ∧ ((True ∧ true = true) ∧ (T10 ((True ∧ true = true) ∧ (T2 (bif (!(eqT_In (takeF x0).1 (takeF x0).1)) then (T4 (rB false true)) else (T5 (bif (!eqS (takeF x0).2.1 (takeF x0).2.1) then (T2 (rB false true)) else (T4 (bif (neI (takeF x0).2.2 (takeF x0).2.2) then (True ∧ (rB false true)) else (True ∧ (rB true true))))))))))))))))))))) (by kernel_rfl) ?_
  unfold T10 T2 T3 T4 T5 T9
  have hz_x0 := szT_cases 1048576 (bulk x0)
  simp only [forall_eq, eqSelf_In, not_true, not_false, false_implies, true_implies, Bool.not_true, Bool.not_false, SIA, eq_self]
  repeat' (with_reducible first | exact trivial | apply And.intro | intro _)
  all_goals first
    | (with_reducible trivial)
    | omega
    | contradiction
    | (with_reducible (show bulk x0 ≤ 1048576); omega)
def e_l_FnExactTakeLine : Entry Tryd.prog := ⟨4, [.s tyIn], fun x => True, fun x => .c (.bool true), fun _ => [], fun x hx => b_l_FnExactTakeLine x.1, Tryd.call4⟩
theorem walk_FnExactTakeLine (w : World) (hgl : Glob w []) (x0 : GIn) (cx0 : List Value) (hx0 : Held w x0 cx0) : Calls Tryd.prog 4 #[.agg cx0.toArray] w (RV (.bool (true)) w) :=
  RV.of_b (b_l_FnExactTakeLine x0) hgl (⟨_, _, rfl, repW_held tyIn hx0, rfl⟩) (fun _ _ _ h => h)
end Go.Proofs.YtkompmgleojmlaaDoor
