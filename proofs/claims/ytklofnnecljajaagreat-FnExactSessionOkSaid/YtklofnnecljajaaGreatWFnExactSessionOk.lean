/-
  The walk of the law FnExactSessionOk.
  No condition but what the arguments' cells hold. Printed by vcgen.py.
-/
import Derived.Test.YtklofnnecljajaaGreatBlSz
import Derived.Test.YtklofnnecljajaaGreatBlTo
import Derived.Test.YtklofnnecljajaaGreatBlMk
import Derived.Test.YtklofnnecljajaaGreatBlHd
import Derived.Test.YtklofnnecljajaaGreatEqB
import Derived.Test.YtklofnnecljajaaGreatBlSess3
set_option linter.unusedSimpArgs false
set_option linter.unusedVariables false
namespace Go.Proofs.YtklofnnecljajaaGreat
open Go.ChangeShapes Go.WideShapes Go.ChangeAt Go.RowKit Go.Joins Go.Deep
open GoRep (rep bulk)

open GoMark (mrk cnt mrkI cntI)
theorem eqSelf_Session (x : GSession) : eqT_Session x x = true := eqT_Session_true.2 rfl
set_option maxRecDepth 100000 in
set_option maxHeartbeats 4000000 in
theorem b_l_FnExactSessionOk (x0 : GSession) : BCalls Tryz.prog 3 [.ag [.bool x0.1, .int .i64 x0.2.1, .int .i64 x0.2.2.1, .int .i64 x0.2.2.2.1, .hs .no tySpan x0.2.2.2.2.1, .bool x0.2.2.2.2.2.1.1, .hs .no tyScope x0.2.2.2.2.2.1.2, .str x0.2.2.2.2.2.2.1, .str x0.2.2.2.2.2.2.2.1, .hs .no tyNote x0.2.2.2.2.2.2.2.2.1.1, .bool x0.2.2.2.2.2.2.2.2.1.2.1, .bool x0.2.2.2.2.2.2.2.2.1.2.2, .str x0.2.2.2.2.2.2.2.2.2.1.1, .bool x0.2.2.2.2.2.2.2.2.2.1.2, .str x0.2.2.2.2.2.2.2.2.2.2.1.1, .str x0.2.2.2.2.2.2.2.2.2.2.1.2, .int .i64 x0.2.2.2.2.2.2.2.2.2.2.2]] (.c (.bool true)) [] := by
  refine bcalls_of (T := ⟨[e_l_szSession, e_l_toSession, e_s_SessionOk, e_i_SessionOk, e_l_eqSession], [], [], [], none, fun _ => [], 0, []⟩) (L := L0) Tryz.func3 ⟨⟨rfl, rfl⟩, rfl⟩ (fun hwf => ?_)
  refine Eq.mpr (β := (True ∧ (True ∧ (True ∧ (True ∧ (True ∧ ((szP 1048576 ∧ true = true) ∧ (True ∧ (True ∧ (True ∧ (bif (ltI (szT 1048576 (bulk x0)) 0) then (True ∧ ((true = true ∧ leC (.bool true) (.bool true)) ∧ true = true)) else (True ∧ ((toP_l_toSession x0 ∧ true = true) ∧ ((List.length x0.2.2.2.2.2.2.2.2.1.1 ≤ rowMax ∧ true = true ∧ true = true) ∧ (True ∧ (True ∧ ((toP_l_toSession x0 ∧ true = true) ∧ (True ∧ (True ∧ (True ∧ ((True ∧ true = true ∧ true = true) ∧ (True ∧ (True ∧ (True ∧ (some TypeDesc.bool = some TypeDesc.bool ∧ (bif (!eqO (sessOk x0) (sessOk x0)) then (True ∧ ((true = true ∧ leC (.bool false) (.bool true)) ∧ true = true)) else ((true = true ∧ true = true) ∧ (True ∧ (True ∧ ((toP_l_toSession x0 ∧ true = true) ∧ ((True ∧ true = true ∧ true = true) ∧ (True ∧ (bif (!(eqT_Session x0 x0)) then (True ∧ ((true = true ∧ leC (.bool false) (.bool true)) ∧ true = true)) else (True ∧ ((true = true ∧ leC (.bool true) (.bool true)) ∧ true = true))))))))))))))))))))))))))))))))))) (by kernel_rfl) ?_
  have hz_x0 := szT_cases 1048576 (bulk x0)
  have hb_x0 : cntI x0 ≤ (23) * (1 + bulk x0) := MkBd.h2 x0
  simp only [forall_eq, eqSelf_Session, not_true, not_false, false_implies, true_implies, Bool.not_true, Bool.not_false, true_and, and_true, cond_iff, eqI_true, eqI_false, neI_true, neI_false, ltI_true, ltI_false, leI_true, leI_false, gtI_true, gtI_false, geI_true, geI_false, eqS_true, eqS_false, eqO_true, eqO_false, not_true, not_false, Bool.not_eq_true', Bool.not_eq_false', eq_self, leV_any, leV_int, leV_bool, leV_str, leV_refl, leB_refl, leC_int, leC_bool, leC_str, leC_hs, leB_row, Int.toNat_natCast]
  repeat' (with_reducible first | exact trivial | apply And.intro | intro _)
  all_goals first
    | (with_reducible trivial)
    | omega
    | contradiction
    | (with_reducible (show bulk x0 ≤ 1048576); omega)
    | (show List.length x0.2.2.2.2.2.2.2.2.1.1 ≤ rowMax; have h2 : bulk x0 = 0 + (0 + (0 + (0 + (bulk x0.2.2.2.2.1 + (bulk x0.2.2.2.2.2.1 + (ByteArray.size x0.2.2.2.2.2.2.1 + (ByteArray.size x0.2.2.2.2.2.2.2.1 + (bulk x0.2.2.2.2.2.2.2.2.1 + (bulk x0.2.2.2.2.2.2.2.2.2.1 + (bulk x0.2.2.2.2.2.2.2.2.2.2.1 + (0))))))))))) := rfl; have h4 : bulk x0.2.2.2.2.2.2.2.2.1 = bulk x0.2.2.2.2.2.2.2.2.1.1 + (0 + (0)) := rfl; have h3 := len_bulk (α := GNote) x0.2.2.2.2.2.2.2.2.1.1; unfold rowMax; omega)
def e_l_FnExactSessionOk : Entry Tryz.prog := ⟨3, [.s tySession], fun x => True, fun x => .c (.bool true), fun _ => [], fun x hx => b_l_FnExactSessionOk x.1, Tryz.call3⟩
theorem walk_FnExactSessionOk (w : World) (hgl : Glob w []) (x0 : GSession) (cx0 : List Value) (hx0 : Held w x0 cx0) : Calls Tryz.prog 3 #[.agg cx0.toArray] w (RV (.bool (true)) w) :=
  RV.of_b (b_l_FnExactSessionOk x0) hgl (⟨_, _, rfl, repW_held tySession hx0, rfl⟩) (fun _ _ _ h => h)
end Go.Proofs.YtklofnnecljajaaGreat
