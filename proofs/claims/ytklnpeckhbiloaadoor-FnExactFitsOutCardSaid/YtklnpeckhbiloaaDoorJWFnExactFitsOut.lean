/-
  The walk of the law FnExactFitsOut.
  No condition but what the arguments' cells hold. Printed by vcgen.py.
-/
import Derived.Test.YtklnpeckhbiloaaDoorJBlSz
import Derived.Test.YtklnpeckhbiloaaDoorJBlTo
import Derived.Test.YtklnpeckhbiloaaDoorJEqB
import Derived.Test.YtklnpeckhbiloaaDoorJBlFits
set_option linter.unusedSimpArgs false
set_option linter.unusedVariables false
set_option maxRecDepth 100000
set_option maxHeartbeats 4000000
namespace Go.Proofs.YtklnpeckhbiloaaDoor
open Go.ChangeShapes Go.WideShapes Go.ChangeAt Go.RowKit Go.Joins Go.Deep
open GoRep (rep bulk)

open GoMark (mrk cnt mrkI cntI)
theorem eqSelf_Out (x : GOut) : eqT_Out x x = true := eqT_Out_true.2 rfl
theorem eqSelf_LCommit (x : List GCommit) : eqT_LCommit x x = true := eqT_LCommit_true.2 rfl
theorem b_l_FnExactFitsOut (x0 : GOut) (x1 : List GCommit) : BCalls Tryd.prog 3 [.ag [.str x0.1, .str x0.2], .c (.hs .no tyCommit x1)] (.c (.bool true)) [] := by
  refine bc0 [e_l_szOut, e_l_szReplyS, e_l_toOut, e_l_toReplyS, e_s_FitsOut, e_i_FitsOut, e_l_eqReplyS] [] [] [] L0 Tryd.func3 (fun hwf => ?_)
  refine Eq.mpr (β := (T5 ((szP 1048576 ∧ true = true) ∧ (T3 (bif (ltI (szT 1048576 (bulk x0)) 0) then (True ∧ (rB true true)) else (T2 ((szP (szT 1048576 (bulk x0)) ∧ true = true) ∧ (T3 (bif (ltI (szT (szT 1048576 (bulk x0)) (bulk x1)) 0) then (True ∧ (rB true true)) else (True ∧ ((True ∧ true = true) ∧ (True ∧ ((toP_l_toReplyS x1 ∧ true = true) ∧ ((List.length x1 ≤ 1048576 ∧ true = true ∧ true = true) ∧ (T2 ((toP_l_toReplyS x1 ∧ true = true) ∧ (T2 ((True ∧ true = true) ∧ (True ∧ ((List.length x1 ≤ 1048576 ∧ true = true ∧ true = true) ∧ (T3 (some TypeDesc.bool = some TypeDesc.bool ∧ (bif (!eqO (fitsB x0 x1) (fitsB x0 x1)) then (True ∧ (rB false true)) else (T2 ((toP_l_toReplyS x1 ∧ true = true) ∧ ((True ∧ true = true ∧ true = true) ∧ (True ∧ (bif (!(eqT_LCommit x1 x1)) then (True ∧ (rB false true)) else (True ∧ (rB true true)))))))))))))))))))))))))))))) (by kernel_rfl) ?_
  unfold T2 T3 T5
  have hz_x0 := szT_cases 1048576 (bulk x0)
  have hz_x1 := szT_cases (szT 1048576 (bulk x0)) (bulk x1)
  have hb_x1 : cntL x1 ≤ (6) * (1 + bulk x1) := MkBd.h2 x1
  have e1 : bulk x1 = List.length x1 + bulkL x1 := rfl
  simp only [forall_eq, eqSelf_Out, eqSelf_LCommit, not_true, not_false, false_implies, true_implies, Bool.not_true, Bool.not_false, SIA, eq_self]
  repeat' (with_reducible first | exact trivial | apply And.intro | intro _)
  all_goals first
    | (with_reducible trivial)
    | omega
    | contradiction
    | (with_reducible (show bulk x0 ≤ 1048576); omega)
    | (with_reducible (show bulk x1 ≤ 1048576); omega)
def e_l_FnExactFitsOut : Entry Tryd.prog := ⟨3, [.s tyOut, .v (.list tyCommit)], fun x => True, fun x => .c (.bool true), fun _ => [], fun x hx => b_l_FnExactFitsOut x.1 x.2.1, Tryd.call3⟩
theorem walk_FnExactFitsOut (w : World) (hgl : Glob w []) (x0 : GOut) (cx0 : List Value) (hx0 : Held w x0 cx0) (x1 : List GCommit) (vx1 : Value) (hx1 : Held w x1 [vx1]) : Calls Tryd.prog 3 #[.agg cx0.toArray, vx1] w (RV (.bool (true)) w) :=
  RV.of_b (b_l_FnExactFitsOut x0 x1) hgl (⟨_, _, rfl, repW_held tyOut hx0, ⟨_, _, rfl, repW_held1 tyCommit hx1, rfl⟩⟩) (fun _ _ _ h => h)
end Go.Proofs.YtklnpeckhbiloaaDoor
