/-
  The walk of the law FnExactBusy.
  No condition but what the arguments' cells hold. Printed by vcgen.py.
-/
import Derived.Test.YtdfanfpembebmaaGreatDoorABlSz
import Derived.Test.YtdfanfpembebmaaGreatDoorABlTo
import Derived.Test.YtdfanfpembebmaaGreatDoorAEqB
import Derived.Test.YtdfanfpembebmaaGreatDoorABlBusy
set_option linter.unusedSimpArgs false
set_option linter.unusedVariables false
set_option maxRecDepth 100000
set_option maxHeartbeats 4000000
namespace Go.Proofs.YtdfanfpembebmaaGreatDoor
open Go.ChangeShapes Go.WideShapes Go.ChangeAt Go.RowKit Go.Joins Go.Deep
open GoRep (rep bulk)

open GoMark (mrk cnt mrkI cntI)
theorem eqSelf_Session (x : GSession) : eqT_Session x x = true := eqT_Session_true.2 rfl
theorem b_l_FnExactBusy (x0 : GSession) : BCalls Tryz.prog 4 [.ag (cellsOf tySession x0)] (.c (.bool true)) [] := by
  refine bc0 [e_l_szSession, e_l_toSession, e_s_Busy, e_i_Busy, e_l_eqSession] [] [] [] L0 Tryz.func4 (fun hwf => ?_)
  refine Eq.mpr (β := (T5 ((szP 1048576 ∧ true = true) ∧ (T3 (bif (ltI (szT 1048576 (bulk x0)) 0) then (True ∧ (rB true true)) else (True ∧ ((toP_l_toSession x0 ∧ true = true) ∧ ((True ∧ true = true ∧ true = true) ∧ (T2 ((toP_l_toSession x0 ∧ true = true) ∧ (T3 ((True ∧ true = true ∧ true = true) ∧ (T3 (some TypeDesc.bool = some TypeDesc.bool ∧ (bif (!eqO (busyB x0) (busyB x0)) then (True ∧ (rB false true)) else ((true = true ∧ true = true) ∧ (T2 ((toP_l_toSession x0 ∧ true = true) ∧ ((True ∧ true = true ∧ true = true) ∧ (True ∧ (bif (!(eqT_Session x0 x0)) then (True ∧ (rB false true)) else (True ∧ (rB true true))))))))))))))))))))))) (by kernel_rfl) ?_
  unfold T2 T3 T5
  have hz_x0 := szT_cases 1048576 (bulk x0)
  have hb_x0 : cntI x0 ≤ (23) * (1 + bulk x0) := MkBd.h2 x0
  simp only [forall_eq, eqSelf_Session, not_true, not_false, false_implies, true_implies, Bool.not_true, Bool.not_false, SIA, eq_self]
  repeat' (with_reducible first | exact trivial | apply And.intro | intro _)
  all_goals first
    | (with_reducible trivial)
    | omega
    | contradiction
    | (with_reducible (show bulk x0 ≤ 1048576); omega)
def e_l_FnExactBusy : Entry Tryz.prog := ⟨4, [.s tySession], fun x => True, fun x => .c (.bool true), fun _ => [], fun x hx => b_l_FnExactBusy x.1, Tryz.call4⟩
theorem walk_FnExactBusy (w : World) (hgl : Glob w []) (x0 : GSession) (cx0 : List Value) (hx0 : Held w x0 cx0) : Calls Tryz.prog 4 #[.agg cx0.toArray] w (RV (.bool (true)) w) :=
  RV.of_b (b_l_FnExactBusy x0) hgl (⟨_, _, rfl, repW_held tySession hx0, rfl⟩) (fun _ _ _ h => h)
end Go.Proofs.YtdfanfpembebmaaGreatDoor
