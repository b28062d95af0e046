/-
  The walk of the law FnExactSessionNew.
  No condition but what the arguments' cells hold. Printed by vcgen.py.
-/
import Derived.Test.YtklnpeckhbiloaaGreatDoorKBlSz
import Derived.Test.YtklnpeckhbiloaaGreatDoorKBlTo
import Derived.Test.YtklnpeckhbiloaaGreatDoorKBlMk
import Derived.Test.YtklnpeckhbiloaaGreatDoorKBlHd
import Derived.Test.YtklnpeckhbiloaaGreatDoorKEqB
import Derived.Test.YtklnpeckhbiloaaGreatDoorKBlSn
set_option linter.unusedSimpArgs false
set_option linter.unusedVariables false
set_option maxRecDepth 100000
set_option maxHeartbeats 4000000
namespace Go.Proofs.YtklnpeckhbiloaaGreatDoor
open Go.ChangeShapes Go.WideShapes Go.ChangeAt Go.RowKit Go.Joins Go.Deep
open GoRep (rep bulk)

open GoMark (mrk cnt mrkI cntI)
theorem eqSelf_Session (x : GSession) : eqT_Session x x = true := eqT_Session_true.2 rfl
def k0gvuba (r0 : List GSpan) (r1 : List GScope) (r2 : List GNote) : Prop := (hdP_l_heldSession (sesN.1, (sesN.2.1, (sesN.2.2.1, (sesN.2.2.2.1, (r0, ((sesN.2.2.2.2.2.1.1, r1), (sesN.2.2.2.2.2.2.1, (sesN.2.2.2.2.2.2.2.1, ((r2, sesN.2.2.2.2.2.2.2.2.1.2), sesN.2.2.2.2.2.2.2.2.2))))))))) 1 ∧ true = true ∧ true = true)
theorem b_l_FnExactSessionNew  : BCalls Tryz.prog 3 [] (.c (.bool true)) [] := by
  refine bc0 [e_s_SessionNew, e_i_SessionNew, e_l_eqSession, e_l_heldSession] [] [] [e_l_markSession] L0 Tryz.func3 (fun hwf => ?_)
  refine Eq.mpr (β := (True ∧ ((True ∧ true = true) ∧ (T2 ((True ∧ true = true) ∧ (T4 ((True ∧ true = true ∧ true = true) ∧ (True ∧ (bif (!(eqT_Session sesN sesN)) then (True ∧ (rB false true)) else (T3 (((mkP_l_markSession sesN 1 ∧ ((((true = true ∧ leC (.bool sesN.1) (.bool sesN.1)) ∧ (true = true ∧ leC (.int .i64 sesN.2.1) (.int .i64 sesN.2.1)) ∧ (true = true ∧ leC (.int .i64 sesN.2.2.1) (.int .i64 sesN.2.2.1)) ∧ (true = true ∧ leC (.int .i64 sesN.2.2.2.1) (.int .i64 sesN.2.2.2.1)) ∧ (sesN.2.2.2.2.1 = sesN.2.2.2.2.1) ∧ (true = true ∧ leC (.bool sesN.2.2.2.2.2.1.1) (.bool sesN.2.2.2.2.2.1.1)) ∧ (sesN.2.2.2.2.2.1.2 = sesN.2.2.2.2.2.1.2) ∧ (true = true ∧ leC (.str sesN.2.2.2.2.2.2.1) (.str sesN.2.2.2.2.2.2.1)) ∧ (true = true ∧ leC (.str sesN.2.2.2.2.2.2.2.1) (.str sesN.2.2.2.2.2.2.2.1)) ∧ (sesN.2.2.2.2.2.2.2.2.1.1 = sesN.2.2.2.2.2.2.2.2.1.1) ∧ (true = true ∧ leC (.bool sesN.2.2.2.2.2.2.2.2.1.2.1) (.bool sesN.2.2.2.2.2.2.2.2.1.2.1)) ∧ (true = true ∧ leC (.bool sesN.2.2.2.2.2.2.2.2.1.2.2) (.bool sesN.2.2.2.2.2.2.2.2.1.2.2)) ∧ (true = true ∧ leC (.str sesN.2.2.2.2.2.2.2.2.2.1.1) (.str sesN.2.2.2.2.2.2.2.2.2.1.1)) ∧ (true = true ∧ leC (.bool sesN.2.2.2.2.2.2.2.2.2.1.2) (.bool sesN.2.2.2.2.2.2.2.2.2.1.2)) ∧ (true = true ∧ leC (.str sesN.2.2.2.2.2.2.2.2.2.2.1.1) (.str sesN.2.2.2.2.2.2.2.2.2.2.1.1)) ∧ (true = true ∧ leC (.str sesN.2.2.2.2.2.2.2.2.2.2.1.2) (.str sesN.2.2.2.2.2.2.2.2.2.2.1.2)) ∧ (true = true ∧ leC (.int .i64 sesN.2.2.2.2.2.2.2.2.2.2.2) (.int .i64 sesN.2.2.2.2.2.2.2.2.2.2.2)) ∧ True)) ∧ True)) ∧ true = true) ∧ ∀ r0 : List GSpan, r0 = (mkF_l_markSession sesN 1).2.2.2.2.1 → ∀ r1 : List GScope, r1 = (mkF_l_markSession sesN 1).2.2.2.2.2.1.2 → ∀ r2 : List GNote, r2 = (mkF_l_markSession sesN 1).2.2.2.2.2.2.2.2.1.1 → (T4 ((k0gvuba r0 r1 r2) ∧ (T3 (bif (ltI (hdR_l_heldSession (sesN.1, (sesN.2.1, (sesN.2.2.1, (sesN.2.2.2.1, (r0, ((sesN.2.2.2.2.2.1.1, r1), (sesN.2.2.2.2.2.2.1, (sesN.2.2.2.2.2.2.2.1, ((r2, sesN.2.2.2.2.2.2.2.2.1.2), sesN.2.2.2.2.2.2.2.2.2))))))))) 1) 0) then (True ∧ (rB false true)) else (T3 (bif (neI (hdR_l_heldSession (sesN.1, (sesN.2.1, (sesN.2.2.1, (sesN.2.2.2.1, (r0, ((sesN.2.2.2.2.2.1.1, r1), (sesN.2.2.2.2.2.2.1, (sesN.2.2.2.2.2.2.2.1, ((r2, sesN.2.2.2.2.2.2.2.2.1.2), sesN.2.2.2.2.2.2.2.2.2))))))))) 1) (mkR_l_markSession sesN 1)) then (True ∧ (rB false true)) else ((True ∧ true = true) ∧ (T4 ((True ∧ true = true ∧ true = true) ∧ (True ∧ (bif (!(eqT_Session sesN sesN)) then (True ∧ (rB false true)) else (T3 ((k0gvuba r0 r1 r2) ∧ (T3 (bif (ltI (hdR_l_heldSession (sesN.1, (sesN.2.1, (sesN.2.2.1, (sesN.2.2.2.1, (r0, ((sesN.2.2.2.2.2.1.1, r1), (sesN.2.2.2.2.2.2.1, (sesN.2.2.2.2.2.2.2.1, ((r2, sesN.2.2.2.2.2.2.2.2.1.2), sesN.2.2.2.2.2.2.2.2.2))))))))) 1) 0) then (True ∧ (rB false true)) else (T3 (bif (neI (hdR_l_heldSession (sesN.1, (sesN.2.1, (sesN.2.2.1, (sesN.2.2.2.1, (r0, ((sesN.2.2.2.2.2.1.1, r1), (sesN.2.2.2.2.2.2.1, (sesN.2.2.2.2.2.2.2.1, ((r2, sesN.2.2.2.2.2.2.2.2.1.2), sesN.2.2.2.2.2.2.2.2.2))))))))) 1) (mkR_l_markSession sesN 1)) then (True ∧ (rB false true)) else (True ∧ (rB true true)))))))))))))))))))))))))))))) (by kernel_rfl) ?_
  unfold k0gvuba T2 T3 T4
  have hN0 : cntI sesN = 0 := by rfl
  simp only [forall_eq, eqSelf_Session, mkR_l_markSession, mkF_l_markSession, hdR_l_heldSession, not_true, not_false, false_implies, true_implies, Bool.not_true, Bool.not_false, SIA, eq_self]
  generalize hc0 : sesN = c0 at hN0 ⊢
  have hm0 : cntI (mrkI c0 1) = cntI c0 := MkOk.c2 c0 1
  have hT0 : ((c0.1, (c0.2.1, (c0.2.2.1, (c0.2.2.2.1, ((mrkI c0 1).2.2.2.2.1, ((c0.2.2.2.2.2.1.1, (mrkI c0 1).2.2.2.2.2.1.2), (c0.2.2.2.2.2.2.1, (c0.2.2.2.2.2.2.2.1, (((mrkI c0 1).2.2.2.2.2.2.2.2.1.1, c0.2.2.2.2.2.2.2.2.1.2), c0.2.2.2.2.2.2.2.2.2)))))))))) = mrkI c0 1 := rfl
  simp only [hT0, hm0]
  have hI0 : mrkI (mrkI c0 1) 1 = mrkI c0 1 := MkOk.i2 c0 1
  repeat' (with_reducible first | exact trivial | apply And.intro | intro _)
  all_goals first
    | (with_reducible trivial)
    | omega
    | (with_reducible exact hI0)
    | (with_reducible (rw [hm0]; omega))
    | contradiction
def e_l_FnExactSessionNew : Entry Tryz.prog := ⟨3, [], fun x => True, fun x => .c (.bool true), fun _ => [], fun x hx => b_l_FnExactSessionNew , Tryz.call3⟩
theorem walk_FnExactSessionNew (w : World) (hgl : Glob w []) : Calls Tryz.prog 3 #[] w (RV (.bool (true)) w) :=
  RV.of_b (b_l_FnExactSessionNew ) hgl (rfl) (fun _ _ _ h => h)
end Go.Proofs.YtklnpeckhbiloaaGreatDoor
