/-
  The walk of the law FnExactServerNew.
  No condition but what the arguments' cells hold. Printed by vcgen.py.
-/
import Derived.Test.YtpokjemdpgjngaaBlSz
import Derived.Test.YtpokjemdpgjngaaBlTo
import Derived.Test.YtpokjemdpgjngaaBlMk
import Derived.Test.YtpokjemdpgjngaaBlHd
import Derived.Test.YtpokjemdpgjngaaEqB
import Derived.Test.YtpokjemdpgjngaaBlMkS
import Derived.Test.YtpokjemdpgjngaaBlHdS
import Derived.Test.YtpokjemdpgjngaaBlNew
set_option linter.unusedSimpArgs false
set_option linter.unusedVariables false
namespace Go.Proofs.Ytpokjemdpgjngaa
open Go.ChangeShapes Go.WideShapes Go.ChangeAt Go.RowKit Go.Joins Go.Deep
open GoRep (rep bulk)

open GoMark (mrk cnt mrkI cntI)
theorem eqSelf_Server (x : GServer) : eqT_Server x x = true := eqT_Server_true.2 rfl
set_option maxRecDepth 100000 in
set_option maxHeartbeats 4000000 in
theorem b_l_FnExactServerNew  : BCalls Try.prog 4 [] (.c (.bool true)) [] := by
  refine bcalls_of (T := ⟨[e_s_ServerNew, e_i_ServerNew, e_l_eqServer, e_l_heldServer], [], [], [e_l_markServer], none, fun _ => [], 0, [], []⟩) (L := L0) Try.func4 ⟨⟨rfl, rfl⟩, rfl⟩ (fun hwf => ?_)
  refine Eq.mpr (β := (True ∧ ((True ∧ true = true) ∧ (True ∧ (True ∧ ((True ∧ true = true) ∧ (True ∧ (True ∧ (True ∧ (True ∧ ((True ∧ true = true ∧ true = true) ∧ (True ∧ (bif (!(eqT_Server serverN serverN)) then (True ∧ ((true = true ∧ leC (.bool false) (.bool true)) ∧ true = true)) else (True ∧ (True ∧ (True ∧ (((mkP_l_markServer serverN 1 ∧ ((((serverN.1.1 = serverN.1.1) ∧ (serverN.1.2.1 = serverN.1.2.1) ∧ (true = true ∧ leC (.int .i64 serverN.1.2.2) (.int .i64 serverN.1.2.2)) ∧ (serverN.2 = serverN.2) ∧ True)) ∧ True)) ∧ true = true) ∧ ∀ r0 : List GBox, r0 = (mkF_l_markServer serverN 1).1.1 → ∀ r1 : List GCommit, r1 = (mkF_l_markServer serverN 1).1.2.1 → ∀ r2 : List GSession, r2 = (mkF_l_markServer serverN 1).2 → (True ∧ (True ∧ (True ∧ (True ∧ ((hdP_l_heldServer ((r0, (r1, serverN.1.2.2)), r2) 1 ∧ true = true ∧ true = true) ∧ (True ∧ (True ∧ (True ∧ (bif (ltI (hdR_l_heldServer ((r0, (r1, serverN.1.2.2)), r2) 1) 0) then (True ∧ ((true = true ∧ leC (.bool false) (.bool true)) ∧ true = true)) else (True ∧ (True ∧ (True ∧ (bif (neI (hdR_l_heldServer ((r0, (r1, serverN.1.2.2)), r2) 1) (mkR_l_markServer serverN 1)) then (True ∧ ((true = true ∧ leC (.bool false) (.bool true)) ∧ true = true)) else ((True ∧ true = true) ∧ (True ∧ (True ∧ (True ∧ (True ∧ ((True ∧ true = true ∧ true = true) ∧ (True ∧ (bif (!(eqT_Server serverN serverN)) then (True ∧ ((true = true ∧ leC (.bool false) (.bool true)) ∧ true = true)) else (True ∧ (True ∧ (True ∧ ((hdP_l_heldServer ((r0, (r1, serverN.1.2.2)), r2) 1 ∧ true = true ∧ true = true) ∧ (True ∧ (True ∧ (True ∧ (bif (ltI (hdR_l_heldServer ((r0, (r1, serverN.1.2.2)), r2) 1) 0) then (True ∧ ((true = true ∧ leC (.bool false) (.bool true)) ∧ true = true)) else (True ∧ (True ∧ (True ∧ (bif (neI (hdR_l_heldServer ((r0, (r1, serverN.1.2.2)), r2) 1) (mkR_l_markServer serverN 1)) then (True ∧ ((true = true ∧ leC (.bool false) (.bool true)) ∧ true = true)) else (True ∧ ((true = true ∧ leC (.bool true) (.bool true)) ∧ true = true)))))))))))))))))))))))))))))))))))))))))))))))))))) (by kernel_rfl) ?_
  have hN0 : cntI serverN = 51 := by rfl
  simp only [forall_eq, eqSelf_Server, mkR_l_markServer, mkF_l_markServer, hdR_l_heldServer, not_true, not_false, false_implies, true_implies, Bool.not_true, Bool.not_false, true_and, and_true, cond_iff, eqI_true, eqI_false, neI_true, neI_false, ltI_true, ltI_false, leI_true, leI_false, gtI_true, gtI_false, geI_true, geI_false, eqS_true, eqS_false, eqO_true, eqO_false, not_true, not_false, Bool.not_eq_true', Bool.not_eq_false', eq_self, leV_any, leV_int, leV_bool, leV_str, leV_refl, leB_refl, leC_int, leC_bool, leC_str, leC_hs, leB_row, Int.toNat_natCast]
  generalize hc0 : serverN = c0 at hN0 ⊢
  have hm0 : cntI (mrkI c0 1) = cntI c0 := MkOk.c2 c0 1
  have hT0 : ((((mrkI c0 1).1.1, ((mrkI c0 1).1.2.1, c0.1.2.2)), (mrkI c0 1).2)) = mrkI c0 1 := rfl
  simp only [hT0, hm0]
  have hI0 : mrkI (mrkI c0 1) 1 = mrkI c0 1 := MkOk.i2 c0 1
  repeat' (with_reducible first | exact trivial | apply And.intro | intro _)
  all_goals first
    | (with_reducible trivial)
    | omega
    | (with_reducible exact hI0)
    | (with_reducible (rw [hm0]; omega))
    | contradiction
def e_l_FnExactServerNew : Entry Try.prog := ⟨4, [], fun x => True, fun x => .c (.bool true), fun _ => [], fun x hx => b_l_FnExactServerNew , Try.call4⟩
theorem walk_FnExactServerNew (w : World) (hgl : Glob w []) : Calls Try.prog 4 #[] w (RV (.bool (true)) w) :=
  RV.of_b (b_l_FnExactServerNew ) hgl (rfl) (fun _ _ _ h => h)
end Go.Proofs.Ytpokjemdpgjngaa
