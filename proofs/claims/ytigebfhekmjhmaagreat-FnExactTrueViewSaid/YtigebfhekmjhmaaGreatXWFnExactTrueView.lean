/-
  The walk of the law FnExactTrueView.
  No condition but what the arguments' cells hold. Printed by vcgen.py.
-/
import Derived.Test.YtigebfhekmjhmaaGreatXBlSz
import Derived.Test.YtigebfhekmjhmaaGreatXBlTo
import Derived.Test.YtigebfhekmjhmaaGreatXEqB
import Derived.Test.YtigebfhekmjhmaaGreatXBlTrue
set_option linter.unusedSimpArgs false
set_option linter.unusedVariables false
namespace Go.Proofs.YtigebfhekmjhmaaGreat
open Go.ChangeShapes Go.WideShapes Go.ChangeAt Go.RowKit Go.Joins Go.Deep
open GoRep (rep bulk)

open GoMark (mrk cnt mrkI cntI)
theorem eqSelf_Session (x : GSession) : eqT_Session x x = true := eqT_Session_true.2 rfl
theorem eqSelf_Store (x : GStore) : eqT_Store x x = true := eqT_Store_true.2 rfl
set_option maxRecDepth 100000 in
set_option maxHeartbeats 4000000 in
theorem b_l_FnExactTrueView (x0 : GStore) (x1 : GSession) : BCalls Tryz.prog 4 [.ag (cellsOf tyStore x0), .ag (cellsOf tySession x1)] (.c (.bool true)) [] := by
  refine bcalls_of (T := ⟨[e_l_szStore, e_l_szSession, e_l_toStore, e_l_toSession, e_s_TrueView, e_i_TrueView, e_l_eqStore, e_l_eqSession], [], [], [], none, fun _ => [], 0, [], []⟩) (L := L0) Tryz.func4 ⟨⟨rfl, rfl⟩, rfl⟩ (fun hwf => ?_)
  refine Eq.mpr (β := (T6 ((szP 1048576 ∧ true = true) ∧ (T3 (bif (ltI (szT 1048576 (bulk x0)) 0) then (True ∧ ((true = true ∧ leC (.bool true) (.bool true)) ∧ true = true)) else (T2 ((szP (szT 1048576 (bulk x0)) ∧ true = true) ∧ (T3 (bif (ltI (szT (szT 1048576 (bulk x0)) (bulk x1)) 0) then (True ∧ ((true = true ∧ leC (.bool true) (.bool true)) ∧ true = true)) else ((true = true ∧ true = true) ∧ (T2 ((toP_l_toStore x0 ∧ true = true) ∧ ((toP_l_toSession x1 ∧ true = true) ∧ ((True ∧ true = true ∧ true = true) ∧ (T2 ((toP_l_toStore x0 ∧ true = true) ∧ (T3 ((toP_l_toSession x1 ∧ true = true) ∧ (T4 ((True ∧ true = true ∧ true = true) ∧ (T3 (some TypeDesc.bool = some TypeDesc.bool ∧ (bif (!eqO (trueV x0 x1) (trueV x0 x1)) then (True ∧ ((true = true ∧ leC (.bool false) (.bool true)) ∧ true = true)) else ((true = true ∧ true = true) ∧ (T2 ((toP_l_toStore x0 ∧ true = true) ∧ ((True ∧ true = true ∧ true = true) ∧ (True ∧ (bif (!(eqT_Store x0 x0)) then (True ∧ ((true = true ∧ leC (.bool false) (.bool true)) ∧ true = true)) else ((true = true ∧ true = true) ∧ (T2 ((toP_l_toSession x1 ∧ true = true) ∧ ((True ∧ true = true ∧ true = true) ∧ (True ∧ (bif (!(eqT_Session x1 x1)) then (True ∧ ((true = true ∧ leC (.bool false) (.bool true)) ∧ true = true)) else (True ∧ ((true = true ∧ leC (.bool true) (.bool true)) ∧ true = true))))))))))))))))))))))))))))))))))))) (by kernel_rfl) ?_
  unfold T2 T3 T4 T6
  have hz_x0 := szT_cases 1048576 (bulk x0)
  have hz_x1 := szT_cases (szT 1048576 (bulk x0)) (bulk x1)
  have hb_x0 : cntI x0 ≤ (13) * (1 + bulk x0) := MkBd.h2 x0
  have hb_x1 : cntI x1 ≤ (23) * (1 + bulk x1) := MkBd.h2 x1
  simp only [forall_eq, eqSelf_Session, eqSelf_Store, not_true, not_false, false_implies, true_implies, Bool.not_true, Bool.not_false, SIA, eq_self]
  repeat' (with_reducible first | exact trivial | apply And.intro | intro _)
  all_goals first
    | (with_reducible trivial)
    | omega
    | contradiction
    | (with_reducible (show bulk x0 ≤ 1048576); omega)
    | (with_reducible (show bulk x1 ≤ 1048576); omega)
def e_l_FnExactTrueView : Entry Tryz.prog := ⟨4, [.s tyStore, .s tySession], fun x => True, fun x => .c (.bool true), fun _ => [], fun x hx => b_l_FnExactTrueView x.1 x.2.1, Tryz.call4⟩
theorem walk_FnExactTrueView (w : World) (hgl : Glob w []) (x0 : GStore) (cx0 : List Value) (hx0 : Held w x0 cx0) (x1 : GSession) (cx1 : List Value) (hx1 : Held w x1 cx1) : Calls Tryz.prog 4 #[.agg cx0.toArray, .agg cx1.toArray] w (RV (.bool (true)) w) :=
  RV.of_b (b_l_FnExactTrueView x0 x1) hgl (⟨_, _, rfl, repW_held tyStore hx0, ⟨_, _, rfl, repW_held tySession hx1, rfl⟩⟩) (fun _ _ _ h => h)
end Go.Proofs.YtigebfhekmjhmaaGreat
